import Derived.Test.YtopkiccdfmjjjaaMFnExactPickOutputsx0
import Derived.Test.YtopkiccdfmjjjaaMFnExactPickOutputsx3
import Derived.Test.YtopkiccdfmjjjaaMFnExactPickOutputsx4
namespace Go.Proofs.Ytopkiccdfmjjjaa.MFnExactPickOutputs
open Go.RowKit Go.Proofs.YtopkiccdfmjjjaaW.PrintWords Go.Proofs.YtopkiccdfmjjjaaW.PrintLast Go.Proofs.YtopkiccdfmjjjaaW.PrintMore Go.Proofs.YtopkiccdfmjjjaaV Go.Proofs.YtopkiccdfmjjjaaZ
attribute [local go_sem] max2_int min2_int max_two min_two max_three min_three max_four min_four   -- for this text's walks alone
set_option linter.unusedVariables false
set_option linter.unusedSimpArgs false
/-! ### spec_plGood: function 53 -/
mutual
def spec_plGood.j0 : Nat → Bool → Int → List (S69) → List Int → Option (Bool)
 | 0,_,_,_,_=>none
 | k + 1,x22,x180000,x180001,x180002=>if x22 = true then (some false) else (spec_plGood.l0 k x180001 (x180001.length : Int) 0 x180000 x180001 x180002)
def spec_plGood.l0 : Nat → List (S69) → Int → Int → Int → List (S69) → List Int → Option (Bool)
 | 0,_,_,_,_,_,_=>none
 | k + 1,x24,x25,x26,x180000,x180001,x180002=>if x26 < x25 then (if 0 ≤ x26 then (if x26 < (x24.length : Int) then ((spec_l1In.f ((rd_T69 x24 x26).f0) 0 ((rd_T69 x24 x26).f1)).bind fun t183=>(if t183 = true then (if ((rd_T69 x24 x26).f1) ≥ (wrap64 (x180000 + x26)) then (some false) else (spec_plGood.l0 k x24 x25 (wrap64 (x26 + 1)) x180000 x180001 x180002)) else (some false))) else (none)) else (none)) else ((spec_plExponents.f k x180000 x180001 x180002).bind fun t184=>(spec_plGood.l1 k t184 (t184.length : Int) 0 x180000 x180001 x180002))
def spec_plGood.l1 : Nat → List (List Int) → Int → Int → Int → List (S69) → List Int → Option (Bool)
 | 0,_,_,_,_,_,_=>none
 | k + 1,x48,x49,x50,x180000,x180001,x180002=>if x50 < x49 then (if 0 ≤ x50 then (if x50 < (x48.length : Int) then ((spec_l1All.f k (rd_L3 x48 x50) 0 1000000).bind fun t188=>(if t188 = true then (spec_plGood.l1 k x48 x49 (wrap64 (x50 + 1)) x180000 x180001 x180002) else (some false))) else (none)) else (none)) else ((spec_l1All.f k x180002 0 (wrap64 ((wrap64 (x180000 + (x180001.length : Int))) - 1))).bind fun t189=>(some t189))
end
def spec_plGood.f (k : Nat) (a0_0 : Int) (l0_1 : List (S69)) (l0_2 : List Int) : Option (Bool):=(spec_l1In.f a0_0 1 6).bind fun t180=>(if t180 = true then (if (l0_1.length : Int) > 40 then (spec_plGood.j0 k true a0_0 l0_1 l0_2) else (spec_plGood.j0 k (decide ((l0_2.length : Int) > 6)) a0_0 l0_1 l0_2)) else (spec_plGood.j0 k true a0_0 l0_1 l0_2))
theorem spec_plGood.mono_l : ∀ k,(∀ y0 y1 y2 y3,LeO (spec_plGood.j0 k y0 y1 y2 y3) (spec_plGood.j0 (k + 1) y0 y1 y2 y3)) ∧ (∀ y0 y1 y2 y3 y4 y5,LeO (spec_plGood.l0 k y0 y1 y2 y3 y4 y5) (spec_plGood.l0 (k + 1) y0 y1 y2 y3 y4 y5)) ∧ (∀ y0 y1 y2 y3 y4 y5,LeO (spec_plGood.l1 k y0 y1 y2 y3 y4 y5) (spec_plGood.l1 (k + 1) y0 y1 y2 y3 y4 y5))
 | 0=>⟨fun _ _ _ _ r h=>by simp [spec_plGood.j0] at h,fun _ _ _ _ _ _ r h=>by simp [spec_plGood.l0] at h,fun _ _ _ _ _ _ r h=>by simp [spec_plGood.l1] at h⟩
 | k + 1=>by
  obtain ⟨ih0,ih1,ih2⟩:=spec_plGood.mono_l k
  refine ⟨?_,?_,?_⟩
  ·intro y0 y1 y2 y3
   unfold spec_plGood.j0
   repeat' first
   | (with_reducible exact ih0 _ _ _ _)
   | (with_reducible exact ih1 _ _ _ _ _ _)
   | (with_reducible exact ih2 _ _ _ _ _ _)
   | (with_reducible exact spec_l1All.mono _ _ _ _)
   | (with_reducible exact spec_plExponents.mono _ _ _ _)
   | (with_reducible exact LeO.refl _)
   | (with_reducible exact LeO.none _)
   | (with_reducible refine LeO.ite ?_ ?_)
   | (with_reducible refine LeO.bind ?_ (fun _=>?_))
   | exact ih0 _ _ _ _
   | exact ih1 _ _ _ _ _ _
   | exact ih2 _ _ _ _ _ _
   | exact spec_l1All.mono _ _ _ _
   | exact spec_plExponents.mono _ _ _ _
   | exact LeO.none _
   | refine LeO.ite ?_ ?_
   | refine LeO.bind ?_ (fun _=>?_)
  ·intro y0 y1 y2 y3 y4 y5
   unfold spec_plGood.l0
   repeat' first
   | (with_reducible exact ih0 _ _ _ _)
   | (with_reducible exact ih1 _ _ _ _ _ _)
   | (with_reducible exact ih2 _ _ _ _ _ _)
   | (with_reducible exact spec_l1All.mono _ _ _ _)
   | (with_reducible exact spec_plExponents.mono _ _ _ _)
   | (with_reducible exact LeO.refl _)
   | (with_reducible exact LeO.none _)
   | (with_reducible refine LeO.ite ?_ ?_)
   | (with_reducible refine LeO.bind ?_ (fun _=>?_))
   | exact ih0 _ _ _ _
   | exact ih1 _ _ _ _ _ _
   | exact ih2 _ _ _ _ _ _
   | exact spec_l1All.mono _ _ _ _
   | exact spec_plExponents.mono _ _ _ _
   | exact LeO.none _
   | refine LeO.ite ?_ ?_
   | refine LeO.bind ?_ (fun _=>?_)
  ·intro y0 y1 y2 y3 y4 y5
   unfold spec_plGood.l1
   repeat' first
   | (with_reducible exact ih0 _ _ _ _)
   | (with_reducible exact ih1 _ _ _ _ _ _)
   | (with_reducible exact ih2 _ _ _ _ _ _)
   | (with_reducible exact spec_l1All.mono _ _ _ _)
   | (with_reducible exact spec_plExponents.mono _ _ _ _)
   | (with_reducible exact LeO.refl _)
   | (with_reducible exact LeO.none _)
   | (with_reducible refine LeO.ite ?_ ?_)
   | (with_reducible refine LeO.bind ?_ (fun _=>?_))
   | exact ih0 _ _ _ _
   | exact ih1 _ _ _ _ _ _
   | exact ih2 _ _ _ _ _ _
   | exact spec_l1All.mono _ _ _ _
   | exact spec_plExponents.mono _ _ _ _
   | exact LeO.none _
   | refine LeO.ite ?_ ?_
   | refine LeO.bind ?_ (fun _=>?_)
theorem spec_plGood.mono : ∀ a0 a1 a2 k,LeO (spec_plGood.f k a0 a1 a2) (spec_plGood.f (k + 1) a0 a1 a2):=by
 intro a0 a1 a2 k
 obtain ⟨ih0,ih1,ih2⟩:=spec_plGood.mono_l k
 unfold spec_plGood.f
 repeat' first
   | (with_reducible exact ih0 _ _ _ _)
   | (with_reducible exact ih1 _ _ _ _ _ _)
   | (with_reducible exact ih2 _ _ _ _ _ _)
   | (with_reducible exact spec_l1All.mono _ _ _ _)
   | (with_reducible exact spec_plExponents.mono _ _ _ _)
   | (with_reducible exact LeO.refl _)
   | (with_reducible exact LeO.none _)
   | (with_reducible refine LeO.ite ?_ ?_)
   | (with_reducible refine LeO.bind ?_ (fun _=>?_))
   | exact ih0 _ _ _ _
   | exact ih1 _ _ _ _ _ _
   | exact ih2 _ _ _ _ _ _
   | exact spec_l1All.mono _ _ _ _
   | exact spec_plExponents.mono _ _ _ _
   | exact LeO.none _
   | refine LeO.ite ?_ ?_
   | refine LeO.bind ?_ (fun _=>?_)
set_option maxHeartbeats 8000000 in
set_option maxRecDepth 100000 in
theorem spec_plGood.calls (k : Nat) (a0_0 : Int) (A0_1 : Option Addr) (c0_1 : Nat) (l0_1 : List (S69)) (A0_2 : Option Addr) (c0_2 : Nat) (l0_2 : List Int) (r : Bool) (w : World) (hr0_1 : Kd.C k69 w A0_1 l0_1.length l0_1) (hc0_1 : l0_1.length ≤ c0_1) (hr0_2 : Kd.C (Kd.int .i64) w A0_2 l0_2.length l0_2) (hc0_2 : l0_2.length ≤ c0_2) (h : spec_plGood.f k a0_0 l0_1 l0_2 = some r) :
  Calls Try.prog 53 #[.agg #[.int .i64 a0_0,.slice A0_1 l0_1.length c0_1,.slice A0_2 l0_2.length c0_2]] w fun e w'=>e = .returned (.bool r) ∧ Below w.heap.size w w':=by
 have hu30:=Try.underlying30
 have hu69:=Try.underlying69
 have HR0_1:=Aside0.mk hr0_1
 have HC0_1:=Aside0.mk hc0_1
 clear hr0_1 hc0_1
 have HR0_2:=Aside0.mk hr0_2
 have HC0_2:=Aside0.mk hc0_2
 clear hr0_2 hc0_2
 have HB:=Aside0.mk (Below.refl w.heap.size w)
 have H : ((spec_l1In.f a0_0 1 6).bind fun t180=>(if t180 = true then (if (l0_1.length : Int) > 40 then (spec_plGood.j0 k true a0_0 l0_1 l0_2) else (spec_plGood.j0 k (decide ((l0_2.length : Int) > 6)) a0_0 l0_1 l0_2)) else (spec_plGood.j0 k true a0_0 l0_1 l0_2))) = some r:=h
 clear h
 have HC2:=Aside0.mk H
 clear H
 go_enter Try.func53,Try.ntmps53
 go_upto_region 1 with (first|((with_reducible refine gate_dst (N:=1) rfl ?_);(try (refine gate_guard (by rfl) ?_;dsimp only));refine box_event ?hg (N:=1) ?hd (cs:=#[.int .i64 a0_0,.slice A0_1 l0_1.length c0_1,.slice A0_2 l0_2.length c0_2]) (t:=30) ?hr ?_;(case hd=>rfl);(case hg=>rfl);(case hr=>first|(go_simp;done)|(go_simp;rfl));intro gb179 hg w3 hbox hb;have n0_:=Aside0.mk (below_step bz hb);have n1_:=Aside0.mk (hbox);have n2_:=Aside0.mk ((by rw [hg];exact (below_size bz) : w.heap.size ≤ gb179));have n3_:=Aside0.mk ((by rw [hg];exact (below_size bz) : w.heap.size ≤ gb179));clear HB;have HB:=n0_;have BK179:=n1_;have GW179:=n2_;have GE179:=n3_;clear n0_ n1_ n2_ n3_;clear hb hbox hg))
 (try simp only [Act.put,xa,xb,xc])
 go_cut [22] (fun v22 wc=>∃ (kq : Nat) (x22_1 : Bool),v22 = .bool x22_1 ∧ Aside0 (spec_plGood.j0 kq x22_1 a0_0 l0_1 l0_2 = some r) ∧ Aside0 (kq ≤ k) ∧ Aside0 (wc.heap[gb179]? = some (.cells #[.int .i64 a0_0,(.slice A0_1 l0_1.length c0_1),(.slice A0_2 l0_2.length c0_2)] 30 (0,0))) ∧ Aside0 (Below w.heap.size w wc))
 case first=>
  have H:=HC2.out
  clear HC2
  obtain ⟨t180,A4,H⟩:=bd H
  by_cases c5 : t180 = true
  ·subst c5
   rw [if_pos rfl] at H
   by_cases c6 : (l0_1.length : Int) > 40
   ·rw [if_pos c6] at H
    have c6b0 : decide (40 < (l0_1.length : Int)) = true:=decide_eq_true c6
    have c6b1 : decide (40 < l0_1.length) = true:=decide_eq_true (by omega)
    clear c6
    (first|rw [c6b0]|(simp only [i64_w,i32_w];rw [c6b0])|skip)
    have H':=Aside0.mk H
    clear H
    have hcz7_0 : w3.cell? ⟨gb179,0,none⟩ = some (.int .i64 a0_0):=(blk_cell BK179.out 0).trans rfl
    have hcz7_1 : w3.cell? ⟨gb179,1,none⟩ = some (.slice A0_1 l0_1.length c0_1):=(blk_cell BK179.out 1).trans rfl
    have hcz7_2 : w3.cell? ⟨gb179,2,none⟩ = some (.slice A0_2 l0_2.length c0_2):=(blk_cell BK179.out 2).trans rfl
    have hfz7_0:=blk_frozen BK179.out 0
    have hfz7_1:=blk_frozen BK179.out 1
    have hfz7_2:=blk_frozen BK179.out 2
    go_wp2_with (first|((with_reducible refine gate_callee (f:=62) rfl ?_);refine goesL_ (some 9) rfl rfl Try.func62 (by kernel_rfl) rfl #[.int .i64 a0_0,.int .i64 1,.int .i64 6] rfl mz ?_;(with_reducible refine (spec_l1In.calls a0_0 1 6 true _ A4.out).mono ?_);rintro e w' ⟨rfl,⟨nd,rfl⟩⟩;refine ⟨_,rfl,?_⟩))
    go_meet
    case rel=>exact ⟨_,(true),fz,H',⟨by first|omega|exact Nat.le_refl _⟩,⟨by (with_reducible repeat (first|refine blk_drewN ?_ _|refine blk_drew ?_|refine blk_alloc ?_ _));exact BK179.out⟩,⟨by repeat (first|(with_reducible first|exact HB.out|apply below_alloc|apply pw_below_drewN|apply below_drew1|refine below_set ?_ GE179.out)|exact HB.out)⟩⟩
   ·rw [if_neg c6] at H
    have c6b0 : decide (40 < (l0_1.length : Int)) = false:=decide_eq_false c6
    have c6b1 : decide (40 < l0_1.length) = false:=decide_eq_false (by omega)
    clear c6
    (first|rw [c6b0]|(simp only [i64_w,i32_w];rw [c6b0])|skip)
    have H':=Aside0.mk H
    clear H
    have hcz8_0 : w3.cell? ⟨gb179,0,none⟩ = some (.int .i64 a0_0):=(blk_cell BK179.out 0).trans rfl
    have hcz8_1 : w3.cell? ⟨gb179,1,none⟩ = some (.slice A0_1 l0_1.length c0_1):=(blk_cell BK179.out 1).trans rfl
    have hcz8_2 : w3.cell? ⟨gb179,2,none⟩ = some (.slice A0_2 l0_2.length c0_2):=(blk_cell BK179.out 2).trans rfl
    have hfz8_0:=blk_frozen BK179.out 0
    have hfz8_1:=blk_frozen BK179.out 1
    have hfz8_2:=blk_frozen BK179.out 2
    go_wp2_with (first|((with_reducible refine gate_callee (f:=62) rfl ?_);refine goesL_ (some 9) rfl rfl Try.func62 (by kernel_rfl) rfl #[.int .i64 a0_0,.int .i64 1,.int .i64 6] rfl mz ?_;(with_reducible refine (spec_l1In.calls a0_0 1 6 true _ A4.out).mono ?_);rintro e w' ⟨rfl,⟨nd,rfl⟩⟩;refine ⟨_,rfl,?_⟩))
    go_meet
    case rel=>exact ⟨_,(decide ((l0_2.length : Int) > 6)),fz,H',⟨by first|omega|exact Nat.le_refl _⟩,⟨by (with_reducible repeat (first|refine blk_drewN ?_ _|refine blk_drew ?_|refine blk_alloc ?_ _));exact BK179.out⟩,⟨by repeat (first|(with_reducible first|exact HB.out|apply below_alloc|apply pw_below_drewN|apply below_drew1|refine below_set ?_ GE179.out)|exact HB.out)⟩⟩
  ·replace c5:=Bool.eq_false_iff.mpr c5
   subst c5
   rw [if_neg (show ¬ (false = true) by decide)] at H
   have H':=Aside0.mk H
   clear H
   have hcz9_0 : w3.cell? ⟨gb179,0,none⟩ = some (.int .i64 a0_0):=(blk_cell BK179.out 0).trans rfl
   have hcz9_1 : w3.cell? ⟨gb179,1,none⟩ = some (.slice A0_1 l0_1.length c0_1):=(blk_cell BK179.out 1).trans rfl
   have hcz9_2 : w3.cell? ⟨gb179,2,none⟩ = some (.slice A0_2 l0_2.length c0_2):=(blk_cell BK179.out 2).trans rfl
   have hfz9_0:=blk_frozen BK179.out 0
   have hfz9_1:=blk_frozen BK179.out 1
   have hfz9_2:=blk_frozen BK179.out 2
   go_wp2_with (first|((with_reducible refine gate_callee (f:=62) rfl ?_);refine goesL_ (some 9) rfl rfl Try.func62 (by kernel_rfl) rfl #[.int .i64 a0_0,.int .i64 1,.int .i64 6] rfl mz ?_;(with_reducible refine (spec_l1In.calls a0_0 1 6 false _ A4.out).mono ?_);rintro e w' ⟨rfl,⟨nd,rfl⟩⟩;refine ⟨_,rfl,?_⟩))
   go_meet
   case rel=>exact ⟨_,(true),fz,H',⟨by first|omega|exact Nat.le_refl _⟩,⟨by (with_reducible repeat (first|refine blk_drewN ?_ _|refine blk_drew ?_|refine blk_alloc ?_ _));exact BK179.out⟩,⟨by repeat (first|(with_reducible first|exact HB.out|apply below_alloc|apply pw_below_drewN|apply below_drew1|refine below_set ?_ GE179.out)|exact HB.out)⟩⟩
 case rest=>
  clear HC2
  try clear p2
  try clear c5
  try clear c6
  try clear c6b0
  try clear c6b1
  try clear hcz7_0
  try clear hcz7_1
  try clear hcz7_2
  try clear hcz8_0
  try clear hcz8_1
  try clear hcz8_2
  try clear hcz9_0
  try clear hcz9_1
  try clear hcz9_2
  try clear hfz7_0
  try clear hfz7_1
  try clear hfz7_2
  try clear hfz8_0
  try clear hfz8_1
  try clear hfz8_2
  try clear hfz9_0
  try clear hfz9_1
  try clear hfz9_2
  obtain ⟨kq,x22_1,rfl,HA,HJ1,BK179,HB⟩:=hcut
  cases kq with
  | zero=>exact absurd HA.out (by simp [spec_plGood.j0])
  | succ kj1=>
   have H:=HA.out
   clear HA
   simp only [spec_plGood.j0] at H
   by_cases c10 : x22_1 = true
   ·subst c10
    rw [if_pos rfl] at H
    obtain rfl:=Option.some.inj H
    go_wp2
    go_ret
    exact ⟨by first|rfl|(simp [errW_none,errW_some] <;> rfl)|(simp [*,errW_none,errW_some] <;> rfl),by repeat (first|(with_reducible first|exact HB.out|apply below_alloc|apply pw_below_drewN|apply below_drew1|refine below_set ?_ GE179.out)|exact HB.out)⟩
   ·replace c10:=Bool.eq_false_iff.mpr c10
    subst c10
    rw [if_neg (show ¬ (false = true) by decide)] at H
    have H':=Aside0.mk H
    clear H
    have hcz11_0 : wc.cell? ⟨gb179,0,none⟩ = some (.int .i64 a0_0):=(blk_cell BK179.out 0).trans rfl
    have hcz11_1 : wc.cell? ⟨gb179,1,none⟩ = some (.slice A0_1 l0_1.length c0_1):=(blk_cell BK179.out 1).trans rfl
    have hcz11_2 : wc.cell? ⟨gb179,2,none⟩ = some (.slice A0_2 l0_2.length c0_2):=(blk_cell BK179.out 2).trans rfl
    have hfz11_0:=blk_frozen BK179.out 0
    have hfz11_1:=blk_frozen BK179.out 1
    have hfz11_2:=blk_frozen BK179.out 2
    go_wp2
    go_loopg [26] kj1 (fun kq v26 w'=>∃ (x26_2 : Int),v26 = .int .i64 x26_2 ∧ Aside0 (spec_plGood.l0 kq l0_1 (l0_1.length : Int) x26_2 a0_0 l0_1 l0_2 = some r) ∧ Aside0 (kq ≤ kj1) ∧ Aside0 (w'.heap[gb179]? = some (.cells #[.int .i64 a0_0,(.slice A0_1 l0_1.length c0_1),(.slice A0_2 l0_2.length c0_2)] 30 (0,0))) ∧ Aside0 (Below w.heap.size w w'))
    case atStart=>exact ⟨(0),fz,H',⟨Nat.le_refl _⟩,⟨by (with_reducible repeat (first|refine blk_drewN ?_ _|refine blk_drew ?_|refine blk_alloc ?_ _));exact BK179.out⟩,⟨by repeat (first|(with_reducible first|exact HB.out|apply below_alloc|apply pw_below_drewN|apply below_drew1|refine below_set ?_ GE179.out)|exact HB.out)⟩⟩
    case round=>
     clear H'
     try clear c1
     try clear p2
     try clear c5
     try clear c6
     try clear c6b0
     try clear c6b1
     try clear c10
     try clear hcz11_0
     try clear hcz11_1
     try clear hcz11_2
     try clear hcz7_0
     try clear hcz7_1
     try clear hcz7_2
     try clear hcz8_0
     try clear hcz8_1
     try clear hcz8_2
     try clear hcz9_0
     try clear hcz9_1
     try clear hcz9_2
     try clear hfz11_0
     try clear hfz11_1
     try clear hfz11_2
     try clear hfz7_0
     try clear hfz7_1
     try clear hfz7_2
     try clear hfz8_0
     try clear hfz8_1
     try clear hfz8_2
     try clear hfz9_0
     try clear hfz9_1
     try clear hfz9_2
     try clear p2
     obtain ⟨x26_2,rfl,HA,HK2,BK179,HB⟩:=hrel
     cases gk with
     | zero=>exact absurd HA.out (by simp [spec_plGood.l0])
     | succ k2=>
      have H:=HA.out
      clear HA
      simp only [spec_plGood.l0] at H
      by_cases c12 : x26_2 < (l0_1.length : Int)
      ·rw [if_pos c12] at H
       have c12b0 : decide (x26_2 < (l0_1.length : Int)) = true:=decide_eq_true c12
       clear c12
       by_cases c13 : 0 ≤ x26_2
       ·rw [if_pos c13] at H
        have c13b0 : decide (0 ≤ x26_2) = true:=decide_eq_true c13
        clear c13
        by_cases c14 : x26_2 < (l0_1.length : Int)
        ·rw [if_pos c14] at H
         have c14b0 : decide (x26_2 < (l0_1.length : Int)) = true:=decide_eq_true c14
         clear c14
         obtain ⟨t183,A15,H⟩:=bd H
         by_cases c16 : t183 = true
         ·subst c16
          rw [if_pos rfl] at H
          by_cases c17 : ((rd_T69 l0_1 x26_2).f1) ≥ (wrap64 (a0_0 + x26_2))
          ·rw [if_pos c17] at H
           have c17b0 : decide ((wrap64 (a0_0 + x26_2)) ≤ ((rd_T69 l0_1 x26_2).f1)) = true:=decide_eq_true c17
           clear c17
           obtain rfl:=Option.some.inj H
           have p181 : 0 ≤ (x26_2 : Int):=of_decide_eq_true az
           have q181 : x26_2 < (l0_1.length : Int):=of_decide_eq_true az
           obtain ⟨ad181,e181,hx181_0,hx181_1⟩:=at_T69 HR0_1.out x26_2 p181 q181
           cases e181
           replace hx181_0:=(HB.out.cell (World.block_lt_of_cell? w _ hx181_0)).trans hx181_0
           replace hx181_1:=(HB.out.cell (World.block_lt_of_cell? w _ hx181_1)).trans hx181_1
           replace p181:=eq_true p181
           replace q181:=eq_true q181
           go_wp2_with (first|((with_reducible refine gate_dst (N:=4) rfl ?_);(try (refine gate_guard (by rfl) ?_;dsimp only));refine box_event ?hg (N:=4) ?hd (cs:=#[.int .i64 0,.int .i64 0]) (t:=69) ?hr ?_;(case hd=>rfl);(case hg=>rfl);(case hr=>first|(go_simp;done)|(go_simp;rfl));intro gb182 hg w18 hbox hb;have n0_:=Aside0.mk (kb BK179.out hb);have n1_:=Aside0.mk (below_step bs hb);have n2_:=Aside0.mk (hbox);have n3_:=Aside0.mk ((by rw [hg];exact (below_size bs) : w.heap.size ≤ gb182));have n4_:=Aside0.mk ((by rw [hg];exact (below_size bs) : w.heap.size ≤ gb182));have n5_:=Aside0.mk (kn hg BK179.out);have n6_:=Aside0.mk (km hg BK179.out);clear BK179 HB;have BK179:=n0_;have HB:=n1_;have BK182:=n2_;have GW182:=n3_;have GE182:=n4_;have NB179_182:=n5_;have NB182_179:=n6_;clear n0_ n1_ n2_ n3_ n4_ n5_ n6_;clear hb hbox hg;have hnb19:=NB182_179.out;have hnc19:=NB179_182.out;have hcz20_0 : w18.cell? ⟨gb182,0,none⟩ = some (.int .i64 0):=(blk_cell BK182.out 0).trans rfl;have hcz20_1 : w18.cell? ⟨gb182,1,none⟩ = some (.int .i64 0):=(blk_cell BK182.out 1).trans rfl;have hfz20_0:=blk_frozen BK182.out 0;have hfz20_1:=blk_frozen BK182.out 1)|((with_reducible refine gate_callee (f:=62) rfl ?_);refine goesL_ (some 35) rfl rfl Try.func62 (by kernel_rfl) rfl #[.int .i64 ((rd_T69 l0_1 x26_2).f0),.int .i64 0,.int .i64 ((rd_T69 l0_1 x26_2).f1)] rfl mz ?_;(with_reducible refine (spec_l1In.calls ((rd_T69 l0_1 x26_2).f0) 0 ((rd_T69 l0_1 x26_2).f1) true _ A15.out).mono ?_);rintro e w' ⟨rfl,⟨nd,rfl⟩⟩;refine ⟨_,rfl,?_⟩;have hcz21_0 : w18.cell? ⟨gb179,0,none⟩ = some (.int .i64 a0_0):=(blk_cell BK179.out 0).trans rfl;have hcz21_1 : w18.cell? ⟨gb179,1,none⟩ = some (.slice (some ad181) l0_1.length c0_1):=(blk_cell BK179.out 1).trans rfl;have hcz21_2 : w18.cell? ⟨gb179,2,none⟩ = some (.slice A0_2 l0_2.length c0_2):=(blk_cell BK179.out 2).trans rfl;have hfz21_0:=blk_frozen BK179.out 0;have hfz21_1:=blk_frozen BK179.out 1;have hfz21_2:=blk_frozen BK179.out 2))
           go_ret
           exact ⟨by first|rfl|(simp [errW_none,errW_some] <;> rfl)|(simp [*,errW_none,errW_some] <;> rfl),by repeat (first|(with_reducible first|exact HB.out|apply below_alloc|apply pw_below_drewN|apply below_drew1|refine below_set ?_ GE179.out|refine below_set ?_ GE182.out)|exact HB.out)⟩
          ·rw [if_neg c17] at H
           have c17b0 : decide ((wrap64 (a0_0 + x26_2)) ≤ ((rd_T69 l0_1 x26_2).f1)) = false:=decide_eq_false c17
           clear c17
           have H':=Aside0.mk H
           clear H
           have p181 : 0 ≤ (x26_2 : Int):=of_decide_eq_true az
           have q181 : x26_2 < (l0_1.length : Int):=of_decide_eq_true az
           obtain ⟨ad181,e181,hx181_0,hx181_1⟩:=at_T69 HR0_1.out x26_2 p181 q181
           cases e181
           replace hx181_0:=(HB.out.cell (World.block_lt_of_cell? w _ hx181_0)).trans hx181_0
           replace hx181_1:=(HB.out.cell (World.block_lt_of_cell? w _ hx181_1)).trans hx181_1
           replace p181:=eq_true p181
           replace q181:=eq_true q181
           go_wp2_with (first|((with_reducible refine gate_dst (N:=4) rfl ?_);(try (refine gate_guard (by rfl) ?_;dsimp only));refine box_event ?hg (N:=4) ?hd (cs:=#[.int .i64 0,.int .i64 0]) (t:=69) ?hr ?_;(case hd=>rfl);(case hg=>rfl);(case hr=>first|(go_simp;done)|(go_simp;rfl));intro gb182 hg w22 hbox hb;have n0_:=Aside0.mk (kb BK179.out hb);have n1_:=Aside0.mk (below_step bs hb);have n2_:=Aside0.mk (hbox);have n3_:=Aside0.mk ((by rw [hg];exact (below_size bs) : w.heap.size ≤ gb182));have n4_:=Aside0.mk ((by rw [hg];exact (below_size bs) : w.heap.size ≤ gb182));have n5_:=Aside0.mk (kn hg BK179.out);have n6_:=Aside0.mk (km hg BK179.out);clear BK179 HB;have BK179:=n0_;have HB:=n1_;have BK182:=n2_;have GW182:=n3_;have GE182:=n4_;have NB179_182:=n5_;have NB182_179:=n6_;clear n0_ n1_ n2_ n3_ n4_ n5_ n6_;clear hb hbox hg;have hnb23:=NB182_179.out;have hnc23:=NB179_182.out;have hcz24_0 : w22.cell? ⟨gb182,0,none⟩ = some (.int .i64 0):=(blk_cell BK182.out 0).trans rfl;have hcz24_1 : w22.cell? ⟨gb182,1,none⟩ = some (.int .i64 0):=(blk_cell BK182.out 1).trans rfl;have hfz24_0:=blk_frozen BK182.out 0;have hfz24_1:=blk_frozen BK182.out 1)|((with_reducible refine gate_callee (f:=62) rfl ?_);refine goesL_ (some 35) rfl rfl Try.func62 (by kernel_rfl) rfl #[.int .i64 ((rd_T69 l0_1 x26_2).f0),.int .i64 0,.int .i64 ((rd_T69 l0_1 x26_2).f1)] rfl mz ?_;(with_reducible refine (spec_l1In.calls ((rd_T69 l0_1 x26_2).f0) 0 ((rd_T69 l0_1 x26_2).f1) true _ A15.out).mono ?_);rintro e w' ⟨rfl,⟨nd,rfl⟩⟩;refine ⟨_,rfl,?_⟩;have hcz25_0 : w22.cell? ⟨gb179,0,none⟩ = some (.int .i64 a0_0):=(blk_cell BK179.out 0).trans rfl;have hcz25_1 : w22.cell? ⟨gb179,1,none⟩ = some (.slice (some ad181) l0_1.length c0_1):=(blk_cell BK179.out 1).trans rfl;have hcz25_2 : w22.cell? ⟨gb179,2,none⟩ = some (.slice A0_2 l0_2.length c0_2):=(blk_cell BK179.out 2).trans rfl;have hfz25_0:=blk_frozen BK179.out 0;have hfz25_1:=blk_frozen BK179.out 1;have hfz25_2:=blk_frozen BK179.out 2))
           go_roundg k2
           case measure=>have:=HJ1.out;have:=HK2.out;omega
           case rel=>exact ⟨(wrap64 (x26_2 + 1)),fz,H',⟨by have:=HJ1.out;have:=HK2.out;omega⟩,⟨by (with_reducible repeat (first|refine blk_drewN ?_ _|refine blk_drew ?_|refine blk_alloc ?_ _));refine blk_far ?_ NB179_182.out _;(with_reducible repeat (first|refine blk_drewN ?_ _|refine blk_drew ?_|refine blk_alloc ?_ _));refine blk_far ?_ NB179_182.out _;(with_reducible repeat (first|refine blk_drewN ?_ _|refine blk_drew ?_|refine blk_alloc ?_ _));exact BK179.out⟩,⟨by repeat (first|(with_reducible first|exact HB.out|apply below_alloc|apply pw_below_drewN|apply below_drew1|refine below_set ?_ GE179.out|refine below_set ?_ GE182.out)|exact HB.out)⟩⟩
         ·replace c16:=Bool.eq_false_iff.mpr c16
          subst c16
          rw [if_neg (show ¬ (false = true) by decide)] at H
          obtain rfl:=Option.some.inj H
          have p181 : 0 ≤ (x26_2 : Int):=of_decide_eq_true az
          have q181 : x26_2 < (l0_1.length : Int):=of_decide_eq_true az
          obtain ⟨ad181,e181,hx181_0,hx181_1⟩:=at_T69 HR0_1.out x26_2 p181 q181
          cases e181
          replace hx181_0:=(HB.out.cell (World.block_lt_of_cell? w _ hx181_0)).trans hx181_0
          replace hx181_1:=(HB.out.cell (World.block_lt_of_cell? w _ hx181_1)).trans hx181_1
          replace p181:=eq_true p181
          replace q181:=eq_true q181
          go_wp2_with (first|((with_reducible refine gate_dst (N:=4) rfl ?_);(try (refine gate_guard (by rfl) ?_;dsimp only));refine box_event ?hg (N:=4) ?hd (cs:=#[.int .i64 0,.int .i64 0]) (t:=69) ?hr ?_;(case hd=>rfl);(case hg=>rfl);(case hr=>first|(go_simp;done)|(go_simp;rfl));intro gb182 hg w26 hbox hb;have n0_:=Aside0.mk (kb BK179.out hb);have n1_:=Aside0.mk (below_step bs hb);have n2_:=Aside0.mk (hbox);have n3_:=Aside0.mk ((by rw [hg];exact (below_size bs) : w.heap.size ≤ gb182));have n4_:=Aside0.mk ((by rw [hg];exact (below_size bs) : w.heap.size ≤ gb182));have n5_:=Aside0.mk (kn hg BK179.out);have n6_:=Aside0.mk (km hg BK179.out);clear BK179 HB;have BK179:=n0_;have HB:=n1_;have BK182:=n2_;have GW182:=n3_;have GE182:=n4_;have NB179_182:=n5_;have NB182_179:=n6_;clear n0_ n1_ n2_ n3_ n4_ n5_ n6_;clear hb hbox hg;have hnb27:=NB182_179.out;have hnc27:=NB179_182.out;have hcz28_0 : w26.cell? ⟨gb182,0,none⟩ = some (.int .i64 0):=(blk_cell BK182.out 0).trans rfl;have hcz28_1 : w26.cell? ⟨gb182,1,none⟩ = some (.int .i64 0):=(blk_cell BK182.out 1).trans rfl;have hfz28_0:=blk_frozen BK182.out 0;have hfz28_1:=blk_frozen BK182.out 1)|((with_reducible refine gate_callee (f:=62) rfl ?_);refine goesL_ (some 35) rfl rfl Try.func62 (by kernel_rfl) rfl #[.int .i64 ((rd_T69 l0_1 x26_2).f0),.int .i64 0,.int .i64 ((rd_T69 l0_1 x26_2).f1)] rfl mz ?_;(with_reducible refine (spec_l1In.calls ((rd_T69 l0_1 x26_2).f0) 0 ((rd_T69 l0_1 x26_2).f1) false _ A15.out).mono ?_);rintro e w' ⟨rfl,⟨nd,rfl⟩⟩;refine ⟨_,rfl,?_⟩))
          go_ret
          exact ⟨by first|rfl|(simp [errW_none,errW_some] <;> rfl)|(simp [*,errW_none,errW_some] <;> rfl),by repeat (first|(with_reducible first|exact HB.out|apply below_alloc|apply pw_below_drewN|apply below_drew1|refine below_set ?_ GE179.out|refine below_set ?_ GE182.out)|exact HB.out)⟩
        ·rw [if_neg c14] at H
         exact absurd H (by simp)
       ·rw [if_neg c13] at H
        exact absurd H (by simp)
      ·rw [if_neg c12] at H
       have c12b0 : decide (x26_2 < (l0_1.length : Int)) = false:=decide_eq_false c12
       clear c12
       obtain ⟨t184,A29,H⟩:=bd H
       have H':=Aside0.mk H
       clear H
       have hcz30_0 : wr.cell? ⟨gb179,0,none⟩ = some (.int .i64 a0_0):=(blk_cell BK179.out 0).trans rfl
       have hcz30_1 : wr.cell? ⟨gb179,1,none⟩ = some (.slice A0_1 l0_1.length c0_1):=(blk_cell BK179.out 1).trans rfl
       have hcz30_2 : wr.cell? ⟨gb179,2,none⟩ = some (.slice A0_2 l0_2.length c0_2):=(blk_cell BK179.out 2).trans rfl
       have hfz30_0:=blk_frozen BK179.out 0
       have hfz30_1:=blk_frozen BK179.out 1
       have hfz30_2:=blk_frozen BK179.out 2
       go_wp2_with (first|((with_reducible refine gate_callee (f:=63) rfl ?_);refine goesL_ (some 48) rfl rfl Try.func63 (by kernel_rfl) rfl #[.agg #[.int .i64 a0_0,.slice A0_1 l0_1.length c0_1,.slice A0_2 l0_2.length c0_2]] rfl mz ?_;(with_reducible refine (spec_plExponents.calls k2 a0_0 _ _ l0_1 _ _ l0_2 t184 _ ?side1 ?side2 ?side3 ?side4 A29.out).mono ?_);(case side1=>exact cz (Kd.C_below HR0_1.out HB.out));(case side2=>exact HC0_1.out);(case side3=>exact cz (Kd.C_below HR0_2.out HB.out));(case side4=>exact HC0_2.out);rintro e w31 ⟨v185,rfl,ho0,hb⟩;refine ⟨_,rfl,?_⟩;have n0_:=Aside0.mk (Kd.S_lower ho0 (below_size bs));have n1_:=Aside0.mk (kb BK179.out hb);have n2_:=Aside0.mk (below_step bs hb);clear BK179 HB;have HO186:=n0_;have BK179:=n1_;have HB:=n2_;clear n0_ n1_ n2_;(try clear hb);(try clear ho0);obtain ⟨Ao32,co32,eo32⟩:=Kd.S_slice HO186.out;subst eo32))
       go_loopg [50] k2 (fun kq v50 w'=>∃ (x50_3 : Int),v50 = .int .i64 x50_3 ∧ Aside0 (spec_plGood.l1 kq t184 (t184.length : Int) x50_3 a0_0 l0_1 l0_2 = some r) ∧ Aside0 (kq ≤ k2) ∧ Aside0 (Kd.S (Kd.slice 3 (Kd.int .i64)) 23 w' w.heap.size (fun _=>True) (.slice Ao32 t184.length co32) t184) ∧ Aside0 (w'.heap[gb179]? = some (.cells #[.int .i64 a0_0,(.slice A0_1 l0_1.length c0_1),(.slice A0_2 l0_2.length c0_2)] 30 (0,0))) ∧ Aside0 (Below w.heap.size w w'))
       case atStart=>exact ⟨(0),fz,H',⟨Nat.le_refl _⟩,⟨by (with_reducible repeat (first|apply Kd.S_alloc|apply Kd.S_drewN|apply Kd.S_drew));exact HO186.out⟩,⟨by (with_reducible repeat (first|refine blk_drewN ?_ _|refine blk_drew ?_|refine blk_alloc ?_ _));exact BK179.out⟩,⟨by repeat (first|(with_reducible first|exact HB.out|apply below_alloc|apply pw_below_drewN|apply below_drew1|refine below_set ?_ GE179.out)|exact HB.out)⟩⟩
       case round=>
        clear H'
        try clear c1
        try clear p1
        try clear q1
        try clear hx1
        try clear c2
        try clear p2
        try clear c5
        try clear c6
        try clear c6b0
        try clear c6b1
        try clear p6
        try clear c10
        try clear c12
        try clear c12b0
        try clear c13
        try clear c13b0
        try clear c14
        try clear c14b0
        try clear c16
        try clear c17
        try clear c17b0
        try clear p18
        try clear q18
        try clear hx18
        try clear c19
        try clear c23
        try clear c27
        try clear hcz11_0
        try clear hcz11_1
        try clear hcz11_2
        try clear hcz20_0
        try clear hcz20_1
        try clear hcz21_0
        try clear hcz21_1
        try clear hcz21_2
        try clear hcz24_0
        try clear hcz24_1
        try clear hcz25_0
        try clear hcz25_1
        try clear hcz25_2
        try clear hcz28_0
        try clear hcz28_1
        try clear hcz30_0
        try clear hcz30_1
        try clear hcz30_2
        try clear hcz7_0
        try clear hcz7_1
        try clear hcz7_2
        try clear hcz8_0
        try clear hcz8_1
        try clear hcz8_2
        try clear hcz9_0
        try clear hcz9_1
        try clear hcz9_2
        try clear hfz11_0
        try clear hfz11_1
        try clear hfz11_2
        try clear hfz20_0
        try clear hfz20_1
        try clear hfz21_0
        try clear hfz21_1
        try clear hfz21_2
        try clear hfz24_0
        try clear hfz24_1
        try clear hfz25_0
        try clear hfz25_1
        try clear hfz25_2
        try clear hfz28_0
        try clear hfz28_1
        try clear hfz30_0
        try clear hfz30_1
        try clear hfz30_2
        try clear hfz7_0
        try clear hfz7_1
        try clear hfz7_2
        try clear hfz8_0
        try clear hfz8_1
        try clear hfz8_2
        try clear hfz9_0
        try clear hfz9_1
        try clear hfz9_2
        try clear hx181_0
        try clear hx181_1
        try clear p181
        try clear p2
        try clear q181
        obtain ⟨x50_3,rfl,HA,HK3,HO_48,BK179,HB⟩:=hrel
        cases gk with
        | zero=>exact absurd HA.out (by simp [spec_plGood.l1])
        | succ k3=>
         have H:=HA.out
         clear HA
         simp only [spec_plGood.l1] at H
         by_cases c33 : x50_3 < (t184.length : Int)
         ·rw [if_pos c33] at H
          have c33b0 : decide (x50_3 < (t184.length : Int)) = true:=decide_eq_true c33
          clear c33
          by_cases c34 : 0 ≤ x50_3
          ·rw [if_pos c34] at H
           have c34b0 : decide (0 ≤ x50_3) = true:=decide_eq_true c34
           clear c34
           by_cases c35 : x50_3 < (t184.length : Int)
           ·rw [if_pos c35] at H
            have c35b0 : decide (x50_3 < (t184.length : Int)) = true:=decide_eq_true c35
            clear c35
            obtain ⟨t188,A36,H⟩:=bd H
            by_cases c37 : t188 = true
            ·subst c37
             rw [if_pos rfl] at H
             have H':=Aside0.mk H
             clear H
             have p187 : 0 ≤ (x50_3 : Int):=of_decide_eq_true az
             have q187 : x50_3 < (t184.length : Int):=of_decide_eq_true az
             obtain ⟨ad187,A187_0,c187_0,e187,hx187_0,hl187_0,hi187_0⟩:=at_L3 (Kd.S_reads' HO_48.out).2.2 x50_3 p187 q187
             cases e187
             obtain ⟨ce187,hce187,hMe187,hcc187⟩:=Kd.S_get HO_48.out [] x50_3 p187 (by first|exact q187|exact of_decide_eq_true az|(have e_:=(Kd.S_reads' HO_48.out).1;omega))
             obtain ⟨ve187_0,rfl,ge187_0⟩:=hMe187
             have hv187_0:=hcc187 0 _ rfl
             rw [Nat.add_zero,show ((Kd.slice 3 (Kd.int .i64))).sz = 1 from rfl,Nat.mul_one] at hv187_0
             replace hv187_0:=Option.some.inj (hv187_0.symm.trans hx187_0)
             rw [hv187_0] at ge187_0
             have HL187_0:=Aside0.mk (show Kd.R (Kd.int .i64) 3 _ _ _ _ (rd_L3 t184 x50_3) from ge187_0)
             clear hv187_0 ge187_0
             clear hcc187 hce187
             have HR187_0:=Aside0.mk hi187_0
             have HC187_0:=Aside0.mk hl187_0
             clear hi187_0 hl187_0
             replace p187:=eq_true p187
             replace q187:=eq_true q187
             go_wp2_with (first|((with_reducible refine gate_callee (f:=81) rfl ?_);refine goesL_ (some 55) rfl rfl Try.func81 (by kernel_rfl) rfl #[.slice A187_0 (rd_L3 t184 x50_3).length c187_0,.int .i64 0,.int .i64 1000000] rfl mz ?_;(with_reducible refine (spec_l1All.calls k3 _ _ (rd_L3 t184 x50_3) 0 1000000 true _ ?side1 ?side2 A36.out).mono ?_);(case side1=>repeat (first|exact (by repeat (first|(with_reducible exact HR187_0.out)|(with_reducible refine Kd.C_alloc ?_ _)|(with_reducible refine Kd.C_drewN ?_ _)|(with_reducible refine Kd.C_drew ?_)|exact HR187_0.out))|(with_reducible refine Kd.C_alloc ?_ _)|(with_reducible refine Kd.C_drewN ?_ _)|(with_reducible refine Kd.C_drew ?_)));(case side2=>exact HC187_0.out);rintro e w' ⟨rfl,⟨nd,rfl⟩⟩;refine ⟨_,rfl,?_⟩))
             go_roundg k3
             case measure=>have:=HJ1.out;have:=HK2.out;have:=HK3.out;omega
             case rel=>exact ⟨(wrap64 (x50_3 + 1)),fz,H',⟨by have:=HJ1.out;have:=HK2.out;have:=HK3.out;omega⟩,⟨by (with_reducible repeat (first|apply Kd.S_alloc|apply Kd.S_drewN|apply Kd.S_drew));exact HO_48.out⟩,⟨by (with_reducible repeat (first|refine blk_drewN ?_ _|refine blk_drew ?_|refine blk_alloc ?_ _));exact BK179.out⟩,⟨by repeat (first|(with_reducible first|exact HB.out|apply below_alloc|apply pw_below_drewN|apply below_drew1|refine below_set ?_ GE179.out)|exact HB.out)⟩⟩
            ·replace c37:=Bool.eq_false_iff.mpr c37
             subst c37
             rw [if_neg (show ¬ (false = true) by decide)] at H
             obtain rfl:=Option.some.inj H
             have p187 : 0 ≤ (x50_3 : Int):=of_decide_eq_true az
             have q187 : x50_3 < (t184.length : Int):=of_decide_eq_true az
             obtain ⟨ad187,A187_0,c187_0,e187,hx187_0,hl187_0,hi187_0⟩:=at_L3 (Kd.S_reads' HO_48.out).2.2 x50_3 p187 q187
             cases e187
             obtain ⟨ce187,hce187,hMe187,hcc187⟩:=Kd.S_get HO_48.out [] x50_3 p187 (by first|exact q187|exact of_decide_eq_true az|(have e_:=(Kd.S_reads' HO_48.out).1;omega))
             obtain ⟨ve187_0,rfl,ge187_0⟩:=hMe187
             have hv187_0:=hcc187 0 _ rfl
             rw [Nat.add_zero,show ((Kd.slice 3 (Kd.int .i64))).sz = 1 from rfl,Nat.mul_one] at hv187_0
             replace hv187_0:=Option.some.inj (hv187_0.symm.trans hx187_0)
             rw [hv187_0] at ge187_0
             have HL187_0:=Aside0.mk (show Kd.R (Kd.int .i64) 3 _ _ _ _ (rd_L3 t184 x50_3) from ge187_0)
             clear hv187_0 ge187_0
             clear hcc187 hce187
             have HR187_0:=Aside0.mk hi187_0
             have HC187_0:=Aside0.mk hl187_0
             clear hi187_0 hl187_0
             replace p187:=eq_true p187
             replace q187:=eq_true q187
             go_wp2_with (first|((with_reducible refine gate_callee (f:=81) rfl ?_);refine goesL_ (some 55) rfl rfl Try.func81 (by kernel_rfl) rfl #[.slice A187_0 (rd_L3 t184 x50_3).length c187_0,.int .i64 0,.int .i64 1000000] rfl mz ?_;(with_reducible refine (spec_l1All.calls k3 _ _ (rd_L3 t184 x50_3) 0 1000000 false _ ?side1 ?side2 A36.out).mono ?_);(case side1=>repeat (first|exact (by repeat (first|(with_reducible exact HR187_0.out)|(with_reducible refine Kd.C_alloc ?_ _)|(with_reducible refine Kd.C_drewN ?_ _)|(with_reducible refine Kd.C_drew ?_)|exact HR187_0.out))|(with_reducible refine Kd.C_alloc ?_ _)|(with_reducible refine Kd.C_drewN ?_ _)|(with_reducible refine Kd.C_drew ?_)));(case side2=>exact HC187_0.out);rintro e w' ⟨rfl,⟨nd,rfl⟩⟩;refine ⟨_,rfl,?_⟩))
             go_ret
             exact ⟨by first|rfl|(simp [errW_none,errW_some] <;> rfl)|(simp [*,errW_none,errW_some] <;> rfl),by repeat (first|(with_reducible first|exact HB.out|apply below_alloc|apply pw_below_drewN|apply below_drew1|refine below_set ?_ GE179.out)|exact HB.out)⟩
           ·rw [if_neg c35] at H
            exact absurd H (by simp)
          ·rw [if_neg c34] at H
           exact absurd H (by simp)
         ·rw [if_neg c33] at H
          have c33b0 : decide (x50_3 < (t184.length : Int)) = false:=decide_eq_false c33
          clear c33
          obtain ⟨t189,A38,H⟩:=bd H
          obtain rfl:=Option.some.inj H
          have hcz39_0 : wr.cell? ⟨gb179,0,none⟩ = some (.int .i64 a0_0):=(blk_cell BK179.out 0).trans rfl
          have hcz39_1 : wr.cell? ⟨gb179,1,none⟩ = some (.slice A0_1 l0_1.length c0_1):=(blk_cell BK179.out 1).trans rfl
          have hcz39_2 : wr.cell? ⟨gb179,2,none⟩ = some (.slice A0_2 l0_2.length c0_2):=(blk_cell BK179.out 2).trans rfl
          have hfz39_0:=blk_frozen BK179.out 0
          have hfz39_1:=blk_frozen BK179.out 1
          have hfz39_2:=blk_frozen BK179.out 2
          go_wp2_with (first|((with_reducible refine gate_callee (f:=81) rfl ?_);refine goesL_ (some 67) rfl rfl Try.func81 (by kernel_rfl) rfl #[.slice A0_2 l0_2.length c0_2,.int .i64 0,.int .i64 (wrap64 ((wrap64 (a0_0 + (l0_1.length : Int))) - 1))] rfl mz ?_;(with_reducible refine (spec_l1All.calls k3 _ _ l0_2 0 (wrap64 ((wrap64 (a0_0 + (l0_1.length : Int))) - 1)) t189 _ ?side1 ?side2 A38.out).mono ?_);(case side1=>exact cz (Kd.C_below HR0_2.out HB.out));(case side2=>exact HC0_2.out);rintro e w' ⟨rfl,⟨nd,rfl⟩⟩;refine ⟨_,rfl,?_⟩))
          go_ret
          exact ⟨by first|rfl|(simp [errW_none,errW_some] <;> rfl)|(simp [*,errW_none,errW_some] <;> rfl),by repeat (first|(with_reducible first|exact HB.out|apply below_alloc|apply pw_below_drewN|apply below_drew1|refine below_set ?_ GE179.out)|exact HB.out)⟩
/-! ### spec_l1Own: function 100 -/
def spec_l1Own.f (l0 : List Int) : Option (List Int):=(some (([] : List Int) : List Int)).bind fun y190=>(if y190.length + l0.length < 17592186044416 then (some (y190 ++ l0)) else (none))
set_option maxHeartbeats 8000000 in
set_option maxRecDepth 100000 in
theorem spec_l1Own.calls (A0 : Option Addr) (c0 : Nat) (l0 : List Int) (r : List Int) (w : World) (hr0 : Kd.C (Kd.int .i64) w A0 l0.length l0) (hc0 : l0.length ≤ c0) (h : spec_l1Own.f l0 = some r) :
  Calls Try.prog 100 #[.slice A0 l0.length c0] w fun e w'=>∃ v0_ : Value,e = .returned (v0_) ∧ Kd.R (Kd.int .i64) 3 w' w.heap.size (fun _=>True) v0_ r ∧ Below w.heap.size w w':=by
 have HR0:=Aside0.mk hr0
 have HC0:=Aside0.mk hc0
 clear hr0 hc0
 have HB:=Aside0.mk (Below.refl w.heap.size w)
 have H : ((some (([] : List Int) : List Int)).bind fun y190=>(if y190.length + l0.length < 17592186044416 then (some (y190 ++ l0)) else (none))) = some r:=h
 clear h
 obtain ⟨y190,hy190⟩ : ∃ y_ : List Int,y_ = (([] : List Int)):=⟨_,rfl⟩
 replace H : (if y190.length + l0.length < 17592186044416 then (some (y190 ++ l0)) else (none)) = some r:=by first|(rw [hy190];with_reducible exact H)|(have H2_:=(Option.bind_some _ _).symm.trans H;rw [hy190];with_reducible exact H2_)|(have H2_:=(Option.bind_some _ _).symm.trans H;with_reducible exact H2_)|with_reducible exact H|(rw [hy190];exact H)|exact H
 have Ny190:=Aside0.mk hy190
 clear hy190
 by_cases c2 : y190.length + l0.length < 17592186044416
 ·rw [if_pos c2] at H
  have LMc2:=Aside0.mk c2
  clear c2
  obtain ⟨y193,hy193⟩ : ∃ y_ : List Int,y_ = (y190 ++ l0):=⟨_,rfl⟩
  replace H : (some y193) = some r:=by first|(rw [hy193];with_reducible exact H)|(have H2_:=(Option.bind_some _ _).symm.trans H;rw [hy193];with_reducible exact H2_)|(have H2_:=(Option.bind_some _ _).symm.trans H;with_reducible exact H2_)|with_reducible exact H|(rw [hy193];exact H)|exact H
  have Ny193:=Aside0.mk hy193
  clear hy193
  obtain rfl:=Option.some.inj H
  go_enter Try.func100,Try.ntmps100
  go_wp2_with (first|((with_reducible refine gate_dst (N:=3) rfl ?_);refine Kd.R_lit (Kd.int .i64) _ 3 ?hg (N:=3) ?hd (xs:=([] : List Int)) (inner:=[]) (ok:=fun _=>True) (okp:=fun _=>True) ?hr ?hp (fun _ hk=>hk) trivial (Below.refl _ _) (Nat.le_refl _) (by simp) ?_;(case hd=>rfl);(case hg=>rfl);(case hr=>first|(go_simp;done)|(go_simp;rfl));(case hp=>exact (Reps.none _ _));intro v191 w3 ho4 hb hg_ hnew_;clear hg_ hnew_;(first|rw [← Ny190.out] at ho4|(simp only [Int.reduceToNat] at ho4;rw [← Ny190.out] at ho4));have n0_:=Aside0.mk (Kd.R_lower ho4 (below_size bz));have n1_:=Aside0.mk (below_step bz hb);clear HB;have HO192:=n0_;have HB:=n1_;clear n0_ n1_;clear hb ho4)|((with_reducible refine gate_builtin (b:=.append) (xs:=#[.tmp 3,.tmp 4]) rfl ?_);at_builtin;refine Kd.R_append_rows (Kd.int .i64) (w0:=w) w.heap.size rfl (.tmp 3) (.tmp 4) 23 3 (.int .i64 0) 8 rfl Try.underlying23 info3 rfl (by decide) (by omega) v191 y190 l0 _ _ _ (fun _=>True) (fun _=>False) rfl rfl ?aO ?aR (fun _ _ h=>h) (fun _ h=>h.elim) ?aF ?aB ?aS ?aL ?_;(case aR=>repeat (first|exact (Kd.C_below HR0.out HB.out)|(with_reducible refine Kd.C_alloc ?_ _)|(with_reducible refine Kd.C_drewN ?_ _)|(with_reducible refine Kd.C_drew ?_)));(case aB=>exact bz);(case aF=>exact (fun _ _=>trivial));(case aO=>exact (rz HO192.out));(case aS=>exact (below_size bz));(case aL=>have:=LMc2.out;omega);intro v194 w5 ho hb hg hat;rw [← Ny193.out] at ho;have n0_:=Aside0.mk (hb);have n1_:=Aside0.mk (ho);clear HB HO192;have HB:=n0_;have HO195:=n1_;clear n0_ n1_;clear ho hb hg hat))
  go_ret
  exact ⟨_,by first|rfl|(simp [errW_none,errW_some] <;> rfl)|(simp [*,errW_none,errW_some] <;> rfl),by (with_reducible repeat (first|apply Kd.R_alloc|apply Kd.R_drewN|apply Kd.R_drew));exact HO195.out,by repeat (first|(with_reducible first|exact HB.out|apply below_alloc|apply pw_below_drewN|apply below_drew1)|exact HB.out)⟩
 ·rw [if_neg c2] at H
  exact absurd H (by simp)
/-! ### spec_plOwn: function 82 -/
def spec_plOwn.f (a0_0 : Int) (l0_1 : List (S69)) (l0_2 : List Int) : Option (Int × (List (S69)) × List Int):=(some (([] : List (S69)) : List (S69))).bind fun y198=>(if y198.length + l0_1.length < 8796093022208 then ((spec_l1Own.f l0_2).bind fun t204=>(some (a0_0,(y198 ++ l0_1),t204))) else (none))
def spec_plOwn.T1 : Bool × List (List Nat × List Nat):=(true,[([],[]),([0],[0]),([],[]),([],[]),([3],[3]),([2,4],[2,4]),([],[]),([6],[6]),([7,5],[7]),([1,5,8],[1,5,8]),([9,8,0,1,2,3,4,5,6,7,8,9],[9])])
def spec_plOwn.B1 : List Nat:=[0,1,0,0,8,28,0,64,252,511,1023]
theorem spec_plOwn.tab1 : rtab .any (opsOf Try.f82 1) = spec_plOwn.T1:=by kernel_rfl
theorem spec_plOwn.bits1 : waitsOk spec_plOwn.T1.2 spec_plOwn.B1 = true:=by kernel_rfl
set_option maxHeartbeats 8000000 in
set_option maxRecDepth 100000 in
theorem spec_plOwn.calls (a0_0 : Int) (A0_1 : Option Addr) (c0_1 : Nat) (l0_1 : List (S69)) (A0_2 : Option Addr) (c0_2 : Nat) (l0_2 : List Int) (r1 : Int) (r2 : List (S69)) (r3 : List Int) (w : World) (hr0_1 : Kd.C k69 w A0_1 l0_1.length l0_1) (hc0_1 : l0_1.length ≤ c0_1) (hr0_2 : Kd.C (Kd.int .i64) w A0_2 l0_2.length l0_2) (hc0_2 : l0_2.length ≤ c0_2) (h : spec_plOwn.f a0_0 l0_1 l0_2 = some (r1,r2,r3)) :
  Calls Try.prog 82 #[.agg #[.int .i64 a0_0,.slice A0_1 l0_1.length c0_1,.slice A0_2 l0_2.length c0_2]] w fun e w'=>∃ v1_ v2_ : Value,e = .returned (.agg #[.int .i64 r1,v1_,v2_]) ∧ Kd.R k69 69 w' w.heap.size (fun _=>True) v1_ r2 ∧ Kd.R (Kd.int .i64) 3 w' w.heap.size (fun _=>True) v2_ r3 ∧ Below w.heap.size w w':=by
 have hu30:=Try.underlying30
 have HR0_1:=Aside0.mk hr0_1
 have HC0_1:=Aside0.mk hc0_1
 clear hr0_1 hc0_1
 have HR0_2:=Aside0.mk hr0_2
 have HC0_2:=Aside0.mk hc0_2
 clear hr0_2 hc0_2
 have HB:=Aside0.mk (Below.refl w.heap.size w)
 have H : ((some (([] : List (S69)) : List (S69))).bind fun y198=>(if y198.length + l0_1.length < 8796093022208 then ((spec_l1Own.f l0_2).bind fun t204=>(some (a0_0,(y198 ++ l0_1),t204))) else (none))) = some (r1,r2,r3):=h
 clear h
 obtain ⟨y198,hy198⟩ : ∃ y_ : List (S69),y_ = (([] : List (S69))):=⟨_,rfl⟩
 replace H : (if y198.length + l0_1.length < 8796093022208 then ((spec_l1Own.f l0_2).bind fun t204=>(some (a0_0,(y198 ++ l0_1),t204))) else (none)) = some (r1,r2,r3):=by first|(rw [hy198];with_reducible exact H)|(have H2_:=(Option.bind_some _ _).symm.trans H;rw [hy198];with_reducible exact H2_)|(have H2_:=(Option.bind_some _ _).symm.trans H;with_reducible exact H2_)|with_reducible exact H|(rw [hy198];exact H)|exact H
 have Ny198:=Aside0.mk hy198
 clear hy198
 by_cases c2 : y198.length + l0_1.length < 8796093022208
 ·rw [if_pos c2] at H
  have LMc2:=Aside0.mk c2
  clear c2
  obtain ⟨y201,hy201⟩ : ∃ y_ : List (S69),y_ = (y198 ++ l0_1):=⟨_,rfl⟩
  replace H : ((spec_l1Own.f l0_2).bind fun t204=>(some (a0_0,y201,t204))) = some (r1,r2,r3):=by first|(rw [hy201];with_reducible exact H)|(have H2_:=(Option.bind_some _ _).symm.trans H;rw [hy201];with_reducible exact H2_)|(have H2_:=(Option.bind_some _ _).symm.trans H;with_reducible exact H2_)|with_reducible exact H|(rw [hy201];exact H)|exact H
  have Ny201:=Aside0.mk hy201
  clear hy201
  obtain ⟨t204,A3,H⟩:=bd H
  simp only [Option.some.injEq,Prod.mk.injEq] at H
  obtain ⟨rfl,rfl,rfl⟩:=H
  go_enter Try.func82,Try.ntmps82
  try go_wp2_with (first|((with_reducible refine gate_dst (N:=1) rfl ?_);refine box_event ?hg (N:=1) ?hd (cs:=#[.int .i64 a0_0,.slice A0_1 l0_1.length c0_1,.slice A0_2 l0_2.length c0_2]) (t:=30) ?hr ?_;(case hd=>rfl);(case hg=>rfl);(case hr=>first|(go_simp;done)|(go_simp;rfl));intro gb196 hg w4 hbox hb;have n0_:=Aside0.mk (below_step bz hb);have n1_:=Aside0.mk (hbox);have n2_:=Aside0.mk ((by rw [hg];exact (below_size bz) : w.heap.size ≤ gb196));have n3_:=Aside0.mk ((by rw [hg];exact (below_size bz) : w.heap.size ≤ gb196));clear HB;have HB:=n0_;have BK196:=n1_;have GW196:=n2_;have GE196:=n3_;clear n0_ n1_ n2_ n3_;clear hb hbox hg)|((with_reducible refine gate_dst (N:=2) rfl ?_);refine box_event ?hg (N:=2) ?hd (cs:=#[.int .i64 0,.slice none 0 0,.slice none 0 0]) (t:=30) ?hr ?_;(case hd=>rfl);(case hg=>rfl);(case hr=>first|(go_simp;done)|(go_simp;rfl));intro gb197 hg w5 hbox hb;have n0_:=Aside0.mk (kb BK196.out hb);have n1_:=Aside0.mk (below_step bs hb);have n2_:=Aside0.mk (hbox);have n3_:=Aside0.mk ((by rw [hg];exact (below_size bs) : w.heap.size ≤ gb197));have n4_:=Aside0.mk ((by rw [hg];exact (below_size bs) : w.heap.size ≤ gb197));have n5_:=Aside0.mk (kn hg BK196.out);have n6_:=Aside0.mk (km hg BK196.out);clear BK196 HB;have BK196:=n0_;have HB:=n1_;have BK197:=n2_;have GW197:=n3_;have GE197:=n4_;have NB196_197:=n5_;have NB197_196:=n6_;clear n0_ n1_ n2_ n3_ n4_ n5_ n6_;clear hb hbox hg))
  have n0_:=Aside0.mk (blk_drew BK196.out)
  have n1_:=Aside0.mk (blk_drew BK197.out)
  have n2_:=Aside0.mk (below_drew1 HB.out)
  clear BK196
  clear BK197
  clear HB
  have BK196:=n0_
  have BK197:=n1_
  have HB:=n2_
  clear n0_ n1_ n2_
  refine start_ (n:=11) (S:=fun w'=>w'.cell? ⟨gb196,0,none⟩ = some (.int .i64 a0_0) ∧ w'.cell? ⟨gb196,1,none⟩ = some (.slice A0_1 l0_1.length c0_1) ∧ w'.cell? ⟨gb196,2,none⟩ = some (.slice A0_2 l0_2.length c0_2)) (ds:=[]) #[false,false,false,false,false,false,false,false,false,false,false] (by kernel_rfl) rfl rfl ⟨(blk_cell BK196.out 0).trans rfl,(blk_cell BK196.out 1).trans rfl,(blk_cell BK196.out 2).trans rfl⟩ (fun hHeld=>?_);refine with_tabW spec_plOwn.tab1 spec_plOwn.bits1 (fun HT_ HW_=>?_)
  generalize w5.drew = w6 at BK196 BK197 HB hHeld ⊢
  refine pure_ (i:=0) (N:=some 3) (v:=?_) (a':=?_) #[true,false,false,false,false,false,false,false,false,false,false] rfl rfl (any_of HT_.out (by kernel_rfl)) (fun _ _ _ h=>h) (Or.inl ⟨by rfl,?_⟩) ?_ ?_
  rotate_left
  ·intro w'
   go_simp
   with_reducible rfl
  rotate_left
  ·simp only [Act.put,xa,xb,xc,i64_w,i32_w]
   rfl
  refine pure_ (i:=3) (N:=some 6) (v:=?_) (a':=?_) #[true,false,false,true,false,false,false,false,false,false,false] rfl rfl (any_of HT_.out (by kernel_rfl)) (fun _ _ _ h=>h) (Or.inl ⟨by rfl,?_⟩) ?_ ?_
  rotate_left
  ·intro w'
   go_simp
   with_reducible rfl
  rotate_left
  ·simp only [Act.put,xa,xb,xc,i64_w,i32_w]
   rfl
  refine pure_ (i:=6) (N:=some 9) (v:=?_) (a':=?_) #[true,false,false,true,false,false,true,false,false,false,false] rfl rfl (any_of HT_.out (by kernel_rfl)) (fun _ _ _ h=>h) (Or.inl ⟨by rfl,?_⟩) ?_ ?_
  rotate_left
  ·intro w'
   go_simp
   with_reducible rfl
  rotate_left
  ·simp only [Act.put,xa,xb,xc,i64_w,i32_w]
   rfl
  refine take_ (i:=1) (N:=some 4) (v:=?_) (a':=?_) #[true,true,false,true,false,false,true,false,false,false,false] rfl rfl (take_ofW HT_.out HW_.out (by kernel_rfl)) (fun _ _ _ h=>h) (Or.inl ⟨by rfl,?_⟩) hHeld ?_ ?_
  rotate_left
  ·rintro w' ⟨s0,s1,s2⟩
   go_simp
   with_reducible rfl
  rotate_left
  ·simp only [Act.put,xa,xb,xc,i64_w,i32_w]
   rfl
  refine take_ (i:=4) (N:=some 7) (v:=?_) (a':=?_) #[true,true,false,true,true,false,true,false,false,false,false] rfl rfl (take_ofW HT_.out HW_.out (by kernel_rfl)) (fun _ _ _ h=>h) (Or.inl ⟨by rfl,?_⟩) hHeld ?_ ?_
  rotate_left
  ·rintro w' ⟨s0,s1,s2⟩
   go_simp
   with_reducible rfl
  rotate_left
  ·simp only [Act.put,xa,xb,xc,i64_w,i32_w]
   rfl
  refine take_ (i:=7) (N:=some 10) (v:=?_) (a':=?_) #[true,true,false,true,true,false,true,true,false,false,false] rfl rfl (take_ofW HT_.out HW_.out (by kernel_rfl)) (fun _ _ _ h=>h) (Or.inl ⟨by rfl,?_⟩) hHeld ?_ ?_
  rotate_left
  ·rintro w' ⟨s0,s1,s2⟩
   go_simp
   with_reducible rfl
  rotate_left
  ·simp only [Act.put,xa,xb,xc,i64_w,i32_w]
   rfl
  refine one_ (i:=2) (N:=some 5) #[true,true,true,true,true,false,true,true,false,false,false] rfl rfl (one_of HT_.out (by kernel_rfl)) (by decide) (fun K hK=>?_)
  refine Kd.R_lit_step k69 _ 69 ?hg (N:=5) ?hd (xs:=([] : List (S69))) (inner:=[]) (ok:=fun _=>True) (okp:=fun _=>True) ?hr ?hp (fun _ hk=>hk) trivial (Below.refl _ _) (Nat.le_refl _) (by simp) ?_;(case hd=>rfl);(case hg=>rfl);(case hr=>first|(go_simp;done)|(go_simp;rfl));(case hp=>exact (Reps.none _ _))
  intro v199 w7 ho8 hb hg_ hnew_
  clear hg_ hnew_
  (first|rw [← Ny198.out] at ho8|(simp only [Int.reduceToNat] at ho8;rw [← Ny198.out] at ho8))
  have n0_:=Aside0.mk (Kd.R_lower ho8 (below_size bs))
  have n1_:=Aside0.mk (kb BK196.out hb)
  have n2_:=Aside0.mk (kb BK197.out hb)
  have n3_:=Aside0.mk (below_step bs hb)
  clear BK196
  clear BK197
  clear HB
  have HO200:=n0_
  have BK196:=n1_
  have BK197:=n2_
  have HB:=n3_
  clear n0_ n1_ n2_ n3_
  clear hb ho8
  refine hK.out _ _ ⟨(blk_cell BK196.out 0).trans rfl,(blk_cell BK196.out 1).trans rfl,(blk_cell BK196.out 2).trans rfl⟩ (fun hHeld=>?_)
  clear hK K
  refine norm_ (a':=?_) ?_ ?_
  rotate_left
  ·show Act.put _ (some 5) _ = _
   simp only [Act.put,xa,xb,xc,i64_w,i32_w]
   rfl
  refine one_ (i:=5) (N:=some 8) #[true,true,true,true,true,true,true,true,false,false,false] rfl rfl (one_of HT_.out (by kernel_rfl)) (by decide) (fun K hK=>?_)
  refine Kd.R_append_rows_step k69 (w0:=w) w.heap.size (by rfl) (.tmp 5) (.tmp 7) 28 69 (.agg #[(.int .i64 0),(.int .i64 0)]) 16 rfl Try.underlying28 info69 rfl (by decide) (by omega) v199 y198 l0_1 _ _ _ (fun _=>True) (fun _=>False) rfl rfl ?aO ?aR (fun _ _ h=>h) (fun _ h=>h.elim) ?aF ?aB ?aS ?aL ?_
  (case aR=>repeat (first|exact (Kd.C_below HR0_1.out HB.out)|(with_reducible refine Kd.C_alloc ?_ _)|(with_reducible refine Kd.C_drewN ?_ _)|(with_reducible refine Kd.C_drew ?_)))
  (case aB=>exact bs)
  (case aF=>exact (fun _ _=>trivial))
  (case aO=>exact (rz HO200.out))
  (case aS=>exact (below_size bs))
  (case aL=>have:=LMc2.out;omega)
  intro v202 w9 ho hb hg hat
  rw [← Ny201.out] at ho
  have n0_:=Aside0.mk (blk_grown (g:=gb196) (o:=.cells #[.int .i64 a0_0,.slice A0_1 l0_1.length c0_1,.slice A0_2 l0_2.length c0_2] 30 (0,0)) (kz BK196.out) hg (Kd.R_ne HO200.out BK196.out (by decide)))
  have n1_:=Aside0.mk (blk_grown (g:=gb197) (o:=.cells #[.int .i64 0,.slice none 0 0,.slice none 0 0] 30 (0,0)) (kz BK197.out) hg (Kd.R_ne HO200.out BK197.out (by decide)))
  have n2_:=Aside0.mk (hb)
  have n3_:=Aside0.mk (ho)
  clear BK196
  clear BK197
  clear HB
  clear HO200
  have BK196:=n0_
  have BK197:=n1_
  have HB:=n2_
  have HO203:=n3_
  clear n0_ n1_ n2_ n3_
  clear ho hb hg hat
  refine hK.out _ _ ⟨(blk_cell BK196.out 0).trans rfl,(blk_cell BK196.out 1).trans rfl,(blk_cell BK196.out 2).trans rfl⟩ (fun hHeld=>?_)
  clear hK K
  refine norm_ (a':=?_) ?_ ?_
  rotate_left
  ·show Act.put _ (some 8) _ = _
   simp only [Act.put,xa,xb,xc,i64_w,i32_w]
   rfl
  refine one_ (i:=8) (N:=some 11) #[true,true,true,true,true,true,true,true,true,false,false] rfl rfl (one_of HT_.out (by kernel_rfl)) (by decide) (fun K hK=>?_)
  refine goes_ Try.func100 (by kernel_rfl) rfl #[.slice A0_2 l0_2.length c0_2] (by rfl) rfl rfl mz ?_
  with_reducible refine (spec_l1Own.calls _ _ l0_2 t204 _ ?side1 ?side2 A3.out).mono ?_
  (case side1=>exact cz (Kd.C_below HR0_2.out HB.out))
  (case side2=>exact HC0_2.out)
  rintro e w10 ⟨v205,rfl,ho0,hb⟩
  refine ⟨_,rfl,?_⟩
  have n0_:=Aside0.mk (Kd.R_below (rz HO203.out) hb)
  have n1_:=Aside0.mk (Kd.R_lower ho0 (below_size bs))
  have n2_:=Aside0.mk (kb BK196.out hb)
  have n3_:=Aside0.mk (kb BK197.out hb)
  have n4_:=Aside0.mk (below_step bs hb)
  clear HO203
  clear BK196
  clear BK197
  clear HB
  have HO203:=n0_
  have HO206:=n1_
  have BK196:=n2_
  have BK197:=n3_
  have HB:=n4_
  clear n0_ n1_ n2_ n3_ n4_
  (try clear hb)
  (try clear ho0)
  obtain ⟨Ao11,co11,eo11⟩:=Kd.R_slice HO206.out
  (first|subst eo11|(injection eo11 with f1_ f2_ f3_;have f4_:=f1_.symm;have f5_:=f3_.symm;clear f1_ f2_ f3_;subst f4_;subst f5_))
  obtain ⟨Ao12,co12,eo12⟩:=Kd.R_slice HO203.out
  (first|subst eo12|(injection eo12 with f1_ f2_ f3_;have f4_:=f1_.symm;have f5_:=f3_.symm;clear f1_ f2_ f3_;subst f4_;subst f5_))
  refine hK.out _ _ ⟨(blk_cell BK196.out 0).trans rfl,(blk_cell BK196.out 1).trans rfl,(blk_cell BK196.out 2).trans rfl⟩ (fun hHeld=>?_)
  clear hK K
  refine norm_ (a':=?_) ?_ ?_
  rotate_left
  ·show Act.put _ (some 11) _ = _
   simp only [Act.put,xa,xb,xc,i64_w,i32_w]
   rfl
  refine pure_ (i:=9) (N:=some 12) (v:=?_) (a':=?_) #[true,true,true,true,true,true,true,true,true,true,false] rfl rfl (any_of HT_.out (by kernel_rfl)) (fun _ _ _ h=>h) (Or.inl ⟨by rfl,?_⟩) ?_ ?_
  rotate_left
  ·intro w'
   go_simp
   with_reducible rfl
  rotate_left
  ·simp only [Act.put,xa,xb,xc,i64_w,i32_w]
   rfl
  refine one_ (i:=10) (N:=none) #[true,true,true,true,true,true,true,true,true,true,true] rfl rfl (one_of HT_.out (by kernel_rfl)) (by decide) (fun K hK=>?_)
  have hs13 : w10.cell? ⟨gb197,0,none⟩ = some (.int .i64 0):=(blk_cell BK197.out 0).trans rfl
  have hfs13:=blk_frozen BK197.out 0
  have hns13_0:=NB196_197.out
  have hms13_0:=NB197_196.out
  have hs14 : w10.cell? ⟨gb197,1,none⟩ = some (.slice none 0 0):=(blk_cell BK197.out 1).trans rfl
  have hfs14:=blk_frozen BK197.out 1
  have hns14_0:=NB196_197.out
  have hms14_0:=NB197_196.out
  have hs15 : w10.cell? ⟨gb197,2,none⟩ = some (.slice none 0 0):=(blk_cell BK197.out 2).trans rfl
  have hfs15:=blk_frozen BK197.out 2
  have hns15_0:=NB196_197.out
  have hms15_0:=NB197_196.out
  refine skip_ (w1:=?_) (by rfl) rfl ?_ ?_
  rotate_left
  ·go_simp
   rfl
  refine hK.out _ _ ⟨((cell_far (p:=⟨gb197,_,none⟩) NB196_197.out _).trans (((cell_far (p:=⟨gb197,_,none⟩) NB196_197.out _).trans (((cell_far (p:=⟨gb197,_,none⟩) NB196_197.out _).trans (hHeld.1)))))),((cell_far (p:=⟨gb197,_,none⟩) NB196_197.out _).trans (((cell_far (p:=⟨gb197,_,none⟩) NB196_197.out _).trans (((cell_far (p:=⟨gb197,_,none⟩) NB196_197.out _).trans (hHeld.2.1)))))),((cell_far (p:=⟨gb197,_,none⟩) NB196_197.out _).trans (((cell_far (p:=⟨gb197,_,none⟩) NB196_197.out _).trans (((cell_far (p:=⟨gb197,_,none⟩) NB196_197.out _).trans (hHeld.2.2))))))⟩ (fun hHeld=>?_)
  clear hK K
  refine done_ (done_of HT_.out (by kernel_rfl)) ?_
  try go_wp2
  refine bodyPost_ret (results_cell_row rfl _ _ gb197 30 #[.int .i64 a0_0,.slice Ao12 y201.length co12,.slice Ao11 t204.length co11] (0,0) _ rfl (by (with_reducible repeat (first|refine blk_drewN ?_ _|refine blk_drew ?_|refine blk_alloc ?_ _));refine blk_put (cs:=#[.int .i64 a0_0,.slice Ao12 y201.length co12,.slice none 0 0]) ?_ 2 _ rfl;(with_reducible repeat (first|refine blk_drewN ?_ _|refine blk_drew ?_|refine blk_alloc ?_ _));refine blk_put (cs:=#[.int .i64 a0_0,.slice none 0 0,.slice none 0 0]) ?_ 1 _ rfl;(with_reducible repeat (first|refine blk_drewN ?_ _|refine blk_drew ?_|refine blk_alloc ?_ _));refine blk_put (cs:=#[.int .i64 0,.slice none 0 0,.slice none 0 0]) ?_ 0 _ rfl;(with_reducible repeat (first|refine blk_drewN ?_ _|refine blk_drew ?_|refine blk_alloc ?_ _));exact BK197.out) Try.underlying30 rfl (by kernel_rfl)) rfl ?_
  exact ⟨_,_,by first|rfl|(simp [errW_none,errW_some] <;> rfl)|(simp [*,errW_none,errW_some] <;> rfl),by (with_reducible repeat (first|apply Kd.R_alloc|apply Kd.R_drewN|apply Kd.R_drew));exact Kd.R_mono (Kd.R_far (p:=⟨gb197,2,none⟩) (Kd.R_far (p:=⟨gb197,1,none⟩) (Kd.R_far (p:=⟨gb197,0,none⟩) (Kd.R_types HO203.out BK197.out (by decide)) (fun _ hk=>hk.2) (.int .i64 a0_0)) (fun _ hk=>hk.2) (.slice Ao12 y201.length co12)) (fun _ hk=>hk.2) (.slice Ao11 t204.length co11)) (fun _ hk=>trivial),by (with_reducible repeat (first|apply Kd.R_alloc|apply Kd.R_drewN|apply Kd.R_drew));exact Kd.R_mono (Kd.R_far (p:=⟨gb197,2,none⟩) (Kd.R_far (p:=⟨gb197,1,none⟩) (Kd.R_far (p:=⟨gb197,0,none⟩) (Kd.R_types HO206.out BK197.out (by decide)) (fun _ hk=>hk.2) (.int .i64 a0_0)) (fun _ hk=>hk.2) (.slice Ao12 y201.length co12)) (fun _ hk=>hk.2) (.slice Ao11 t204.length co11)) (fun _ hk=>trivial),by repeat (first|(with_reducible first|exact HB.out|apply below_alloc|apply pw_below_drewN|apply below_drew1|refine below_set ?_ GE196.out|refine below_set ?_ GE197.out)|exact HB.out)⟩
 ·rw [if_neg c2] at H
  exact absurd H (by simp)
/-! ### spec_plIf: function 83 -/
def spec_plIf.f (k : Nat) (a0_0 : Int) (l0_1 : List (S69)) (l0_2 : List Int) : Option (Int × (List (S69)) × List Int × Bool):=(spec_plGood.f k a0_0 l0_1 l0_2).bind fun t209=>(if t209 = true then (some (a0_0,l0_1,l0_2,true)) else (some (0,([] : List (S69)),([] : List Int),false)))
theorem spec_plIf.mono : ∀ a0 a1 a2 k,LeO (spec_plIf.f k a0 a1 a2) (spec_plIf.f (k + 1) a0 a1 a2):=by
 intro a0 a1 a2 k
 unfold spec_plIf.f
 repeat' first
   | (with_reducible exact spec_plGood.mono _ _ _ _)
   | (with_reducible exact LeO.refl _)
   | (with_reducible exact LeO.none _)
   | (with_reducible refine LeO.ite ?_ ?_)
   | (with_reducible refine LeO.bind ?_ (fun _=>?_))
   | exact spec_plGood.mono _ _ _ _
   | exact LeO.none _
   | refine LeO.ite ?_ ?_
   | refine LeO.bind ?_ (fun _=>?_)
set_option maxHeartbeats 8000000 in
set_option maxRecDepth 100000 in
theorem spec_plIf.calls (k : Nat) (a0_0 : Int) (P0_1_ : Nat → Prop) (u9000_ : Value) (l0_1 : List (S69)) (P0_2_ : Nat → Prop) (u9001_ : Value) (l0_2 : List Int) (r1 : Int) (r2 : List (S69)) (r3 : List Int) (r4 : Bool) (w0 w : World) (hB : Below w0.heap.size w0 w) (ho0_1 : Kd.R k69 69 w w0.heap.size P0_1_ u9000_ l0_1) (ho0_2 : Kd.R (Kd.int .i64) 3 w w0.heap.size P0_2_ u9001_ l0_2) (h : spec_plIf.f k a0_0 l0_1 l0_2 = some (r1,r2,r3,r4)) :
  Calls Try.prog 83 #[.agg #[.int .i64 a0_0,u9000_,u9001_]] w fun e w'=>∃ v1_ v2_ : Value,e = .returned (.tuple #[.agg #[.int .i64 r1,v1_,v2_],.bool r4]) ∧ Kd.R k69 69 w' w0.heap.size (fun k_=>((P0_1_ k_ ∨ P0_2_ k_) ∨ w.heap.size ≤ k_)) v1_ r2 ∧ Kd.R (Kd.int .i64) 3 w' w0.heap.size (fun k_=>((P0_1_ k_ ∨ P0_2_ k_) ∨ w.heap.size ≤ k_)) v2_ r3 ∧ Below w0.heap.size w0 w' ∧ Kept w w' (fun k_=>P0_1_ k_ ∨ P0_2_ k_):=by
 have hu30:=Try.underlying30
 have HO0_1:=Aside0.mk (show Kd.R k69 69 w w0.heap.size (fun k_=>((P0_1_ k_ ∨ P0_2_ k_) ∨ w.heap.size ≤ k_)) u9000_ l0_1 from Kd.R_mono ho0_1 (fun k_ hk=>(.inl (.inl hk))))
 have HO0_2:=Aside0.mk (show Kd.R (Kd.int .i64) 3 w w0.heap.size (fun k_=>((P0_1_ k_ ∨ P0_2_ k_) ∨ w.heap.size ≤ k_)) u9001_ l0_2 from Kd.R_mono ho0_2 (fun k_ hk=>(.inl (.inr hk))))
 have HK:=Aside0.mk (Kept.refl w (fun k_=>P0_1_ k_ ∨ P0_2_ k_))
 have HW0:=Aside0.mk hB.size
 have HB:=Aside0.mk hB
 clear hB
 have H : ((spec_plGood.f k a0_0 l0_1 l0_2).bind fun t209=>(if t209 = true then (some (a0_0,l0_1,l0_2,true)) else (some (0,([] : List (S69)),([] : List Int),false)))) = some (r1,r2,r3,r4):=h
 clear h
 obtain ⟨t209,A2,H⟩:=bd H
 by_cases c3 : t209 = true
 ·subst c3
  rw [if_pos rfl] at H
  simp only [Option.some.injEq,Prod.mk.injEq] at H
  obtain ⟨rfl,rfl,rfl,rfl⟩:=H
  obtain ⟨Ao4,co4,eo4⟩:=Kd.R_slice HO0_1.out
  subst eo4
  obtain ⟨Ao5,co5,eo5⟩:=Kd.R_slice HO0_2.out
  subst eo5
  go_enter Try.func83,Try.ntmps83
  go_wp2_with (first|((with_reducible refine gate_dst (N:=1) rfl ?_);refine box_event ?hg (N:=1) ?hd (cs:=#[.int .i64 a0_0,.slice Ao4 l0_1.length co4,.slice Ao5 l0_2.length co5]) (t:=30) ?hr ?_;(case hd=>rfl);(case hg=>rfl);(case hr=>first|(go_simp;done)|(go_simp;rfl));intro gb207 hg w6 hbox hb;have n0_:=Aside0.mk (Kd.R_below (rz HO0_1.out) hb);have n1_:=Aside0.mk (Kd.R_below (rz HO0_2.out) hb);have n2_:=Aside0.mk (Kept.below (S:=(fun k_=>P0_1_ k_ ∨ P0_2_ k_)) (by repeat (first|(with_reducible first|exact HK.out|apply Kept.alloc|apply Kept.drewN|apply Kept.drew)|exact HK.out)) hb);have n3_:=Aside0.mk (below_step bz hb);have n4_:=Aside0.mk (hbox);have n5_:=Aside0.mk ((by rw [hg];exact (by first|exact HK.out.1|exact (show Kept w _ (fun k_=>P0_1_ k_ ∨ P0_2_ k_) from by repeat (first|(with_reducible first|exact HK.out|apply Kept.alloc|apply Kept.drewN|apply Kept.drew)|exact HK.out)).1) : w.heap.size ≤ gb207));have n6_:=Aside0.mk ((by rw [hg];exact (below_size bz) : w0.heap.size ≤ gb207));clear HO0_1 HO0_2 HK HB;have HO0_1:=n0_;have HO0_2:=n1_;have HK:=n2_;have HB:=n3_;have BK207:=n4_;have GW207:=n5_;have GE207:=n6_;clear n0_ n1_ n2_ n3_ n4_ n5_ n6_;clear hb hbox hg)|((with_reducible refine gate_dst (N:=2) rfl ?_);refine box_event ?hg (N:=2) ?hd (cs:=#[.int .i64 0,.slice none 0 0,.slice none 0 0]) (t:=30) ?hr ?_;(case hd=>rfl);(case hg=>rfl);(case hr=>first|(go_simp;done)|(go_simp;rfl));intro gb208 hg w7 hbox hb;have n0_:=Aside0.mk (Kd.R_below (rz HO0_1.out) hb);have n1_:=Aside0.mk (Kd.R_below (rz HO0_2.out) hb);have n2_:=Aside0.mk (kb BK207.out hb);have n3_:=Aside0.mk (Kept.below (S:=(fun k_=>P0_1_ k_ ∨ P0_2_ k_)) (by repeat (first|(with_reducible first|exact HK.out|apply Kept.alloc|apply Kept.drewN|apply Kept.drew|refine Kept.setCell ?_ (.inr GW207.out) _)|exact HK.out)) hb);have n4_:=Aside0.mk (below_step bs hb);have n5_:=Aside0.mk (hbox);have n6_:=Aside0.mk ((by rw [hg];exact (by first|exact HK.out.1|exact (show Kept w _ (fun k_=>P0_1_ k_ ∨ P0_2_ k_) from by repeat (first|(with_reducible first|exact HK.out|apply Kept.alloc|apply Kept.drewN|apply Kept.drew|refine Kept.setCell ?_ (.inr GW207.out) _)|exact HK.out)).1) : w.heap.size ≤ gb208));have n7_:=Aside0.mk ((by rw [hg];exact (below_size bs) : w0.heap.size ≤ gb208));have n8_:=Aside0.mk (kn hg BK207.out);have n9_:=Aside0.mk (km hg BK207.out);clear HO0_1 HO0_2 BK207 HK HB;have HO0_1:=n0_;have HO0_2:=n1_;have BK207:=n2_;have HK:=n3_;have HB:=n4_;have BK208:=n5_;have GW208:=n6_;have GE208:=n7_;have NB207_208:=n8_;have NB208_207:=n9_;clear n0_ n1_ n2_ n3_ n4_ n5_ n6_ n7_ n8_ n9_;clear hb hbox hg;have hnb8:=NB207_208.out;have hnc8:=NB208_207.out;have hcz9_0 : w7.cell? ⟨gb207,0,none⟩ = some (.int .i64 a0_0):=(blk_cell BK207.out 0).trans rfl;have hcz9_1 : w7.cell? ⟨gb207,1,none⟩ = some (.slice Ao4 l0_1.length co4):=(blk_cell BK207.out 1).trans rfl;have hcz9_2 : w7.cell? ⟨gb207,2,none⟩ = some (.slice Ao5 l0_2.length co5):=(blk_cell BK207.out 2).trans rfl;have hfz9_0:=blk_frozen BK207.out 0;have hfz9_1:=blk_frozen BK207.out 1;have hfz9_2:=blk_frozen BK207.out 2)|((with_reducible refine gate_callee (f:=53) rfl ?_);refine goesL_ (some 5) rfl rfl Try.func53 (by kernel_rfl) rfl #[.agg #[.int .i64 a0_0,.slice Ao4 l0_1.length co4,.slice Ao5 l0_2.length co5]] rfl mz ?_;(with_reducible refine (spec_plGood.calls k a0_0 _ _ l0_1 _ _ l0_2 true _ ?side1 ?side2 ?side3 ?side4 A2.out).mono ?_);(case side1=>exact cz (Kd.R_reads' HO0_1.out).2.2);(case side2=>exact (Kd.R_reads' HO0_1.out).2.1);(case side3=>exact cz (Kd.R_reads' HO0_2.out).2.2);(case side4=>exact (Kd.R_reads' HO0_2.out).2.1);rintro e w10 ⟨rfl,hb⟩;refine ⟨_,rfl,?_⟩;have n0_:=Aside0.mk (Kd.R_below (rz HO0_1.out) hb);have n1_:=Aside0.mk (Kd.R_below (rz HO0_2.out) hb);have n2_:=Aside0.mk (kb BK207.out hb);have n3_:=Aside0.mk (kb BK208.out hb);have n4_:=Aside0.mk (Kept.below (S:=(fun k_=>P0_1_ k_ ∨ P0_2_ k_)) (by repeat (first|(with_reducible first|exact HK.out|apply Kept.alloc|apply Kept.drewN|apply Kept.drew|refine Kept.setCell ?_ (.inr GW207.out) _|refine Kept.setCell ?_ (.inr GW208.out) _)|exact HK.out)) hb);have n5_:=Aside0.mk (below_step bs hb);clear HO0_1 HO0_2 BK207 BK208 HK HB;have HO0_1:=n0_;have HO0_2:=n1_;have BK207:=n2_;have BK208:=n3_;have HK:=n4_;have HB:=n5_;clear n0_ n1_ n2_ n3_ n4_ n5_;(try clear hb);have hcz11_0 : w10.cell? ⟨gb207,0,none⟩ = some (.int .i64 a0_0):=(blk_cell BK207.out 0).trans rfl;have hcz11_1 : w10.cell? ⟨gb207,1,none⟩ = some (.slice Ao4 l0_1.length co4):=(blk_cell BK207.out 1).trans rfl;have hcz11_2 : w10.cell? ⟨gb207,2,none⟩ = some (.slice Ao5 l0_2.length co5):=(blk_cell BK207.out 2).trans rfl;have hfz11_0:=blk_frozen BK207.out 0;have hfz11_1:=blk_frozen BK207.out 1;have hfz11_2:=blk_frozen BK207.out 2;have hcz12_0 : w10.cell? ⟨gb208,0,none⟩ = some (.int .i64 0):=(blk_cell BK208.out 0).trans rfl;have hcz12_1 : w10.cell? ⟨gb208,1,none⟩ = some (.slice none 0 0):=(blk_cell BK208.out 1).trans rfl;have hcz12_2 : w10.cell? ⟨gb208,2,none⟩ = some (.slice none 0 0):=(blk_cell BK208.out 2).trans rfl;have hfz12_0:=blk_frozen BK208.out 0;have hfz12_1:=blk_frozen BK208.out 1;have hfz12_2:=blk_frozen BK208.out 2))
  refine bodyPost_ret (results_ct rfl _ _ gb208 30 #[.int .i64 a0_0,.slice Ao4 l0_1.length co4,.slice Ao5 l0_2.length co5] (0,0) _ rfl (by (with_reducible repeat (first|refine blk_drewN ?_ _|refine blk_drew ?_|refine blk_alloc ?_ _));refine blk_put (cs:=#[.int .i64 a0_0,.slice Ao4 l0_1.length co4,.slice none 0 0]) ?_ 2 _ rfl;(with_reducible repeat (first|refine blk_drewN ?_ _|refine blk_drew ?_|refine blk_alloc ?_ _));refine blk_put (cs:=#[.int .i64 a0_0,.slice none 0 0,.slice none 0 0]) ?_ 1 _ rfl;(with_reducible repeat (first|refine blk_drewN ?_ _|refine blk_drew ?_|refine blk_alloc ?_ _));refine blk_put (cs:=#[.int .i64 0,.slice none 0 0,.slice none 0 0]) ?_ 0 _ rfl;(with_reducible repeat (first|refine blk_drewN ?_ _|refine blk_drew ?_|refine blk_alloc ?_ _));exact BK208.out) Try.underlying30 rfl (by kernel_rfl)) rfl ?_
  exact ⟨_,_,by first|rfl|(simp [errW_none,errW_some] <;> rfl)|(simp [*,errW_none,errW_some] <;> rfl),by (with_reducible repeat (first|apply Kd.R_alloc|apply Kd.R_drewN|apply Kd.R_drew));exact Kd.R_mono (Kd.R_far (p:=⟨gb208,2,none⟩) (Kd.R_far (p:=⟨gb208,1,none⟩) (Kd.R_far (p:=⟨gb208,0,none⟩) (Kd.R_types HO0_1.out BK208.out (by decide)) (fun _ hk=>hk.2) (.int .i64 a0_0)) (fun _ hk=>hk.2) (.slice Ao4 l0_1.length co4)) (fun _ hk=>hk.2) (.slice Ao5 l0_2.length co5)) (fun _ hk=>hk.1),by (with_reducible repeat (first|apply Kd.R_alloc|apply Kd.R_drewN|apply Kd.R_drew));exact Kd.R_mono (Kd.R_far (p:=⟨gb208,2,none⟩) (Kd.R_far (p:=⟨gb208,1,none⟩) (Kd.R_far (p:=⟨gb208,0,none⟩) (Kd.R_types HO0_2.out BK208.out (by decide)) (fun _ hk=>hk.2) (.int .i64 a0_0)) (fun _ hk=>hk.2) (.slice Ao4 l0_1.length co4)) (fun _ hk=>hk.2) (.slice Ao5 l0_2.length co5)) (fun _ hk=>hk.1),by repeat (first|(with_reducible first|exact HB.out|apply below_alloc|apply pw_below_drewN|apply below_drew1|refine below_set ?_ GE207.out|refine below_set ?_ GE208.out)|exact HB.out),by repeat (first|(with_reducible first|exact HK.out|apply Kept.alloc|apply Kept.drewN|apply Kept.drew|refine Kept.setCell ?_ (.inr GW207.out) _|refine Kept.setCell ?_ (.inr GW208.out) _)|exact HK.out)⟩
 ·replace c3:=Bool.eq_false_iff.mpr c3
  subst c3
  rw [if_neg (show ¬ (false = true) by decide)] at H
  simp only [Option.some.injEq,Prod.mk.injEq] at H
  obtain ⟨rfl,rfl,rfl,rfl⟩:=H
  obtain ⟨Ao13,co13,eo13⟩:=Kd.R_slice HO0_1.out
  subst eo13
  obtain ⟨Ao14,co14,eo14⟩:=Kd.R_slice HO0_2.out
  subst eo14
  go_enter Try.func83,Try.ntmps83
  go_wp2_with (first|((with_reducible refine gate_dst (N:=1) rfl ?_);refine box_event ?hg (N:=1) ?hd (cs:=#[.int .i64 a0_0,.slice Ao13 l0_1.length co13,.slice Ao14 l0_2.length co14]) (t:=30) ?hr ?_;(case hd=>rfl);(case hg=>rfl);(case hr=>first|(go_simp;done)|(go_simp;rfl));intro gb207 hg w15 hbox hb;have n0_:=Aside0.mk (Kd.R_below (rz HO0_1.out) hb);have n1_:=Aside0.mk (Kd.R_below (rz HO0_2.out) hb);have n2_:=Aside0.mk (Kept.below (S:=(fun k_=>P0_1_ k_ ∨ P0_2_ k_)) (by repeat (first|(with_reducible first|exact HK.out|apply Kept.alloc|apply Kept.drewN|apply Kept.drew)|exact HK.out)) hb);have n3_:=Aside0.mk (below_step bz hb);have n4_:=Aside0.mk (hbox);have n5_:=Aside0.mk ((by rw [hg];exact (by first|exact HK.out.1|exact (show Kept w _ (fun k_=>P0_1_ k_ ∨ P0_2_ k_) from by repeat (first|(with_reducible first|exact HK.out|apply Kept.alloc|apply Kept.drewN|apply Kept.drew)|exact HK.out)).1) : w.heap.size ≤ gb207));have n6_:=Aside0.mk ((by rw [hg];exact (below_size bz) : w0.heap.size ≤ gb207));clear HO0_1 HO0_2 HK HB;have HO0_1:=n0_;have HO0_2:=n1_;have HK:=n2_;have HB:=n3_;have BK207:=n4_;have GW207:=n5_;have GE207:=n6_;clear n0_ n1_ n2_ n3_ n4_ n5_ n6_;clear hb hbox hg)|((with_reducible refine gate_dst (N:=2) rfl ?_);refine box_event ?hg (N:=2) ?hd (cs:=#[.int .i64 0,.slice none 0 0,.slice none 0 0]) (t:=30) ?hr ?_;(case hd=>rfl);(case hg=>rfl);(case hr=>first|(go_simp;done)|(go_simp;rfl));intro gb208 hg w16 hbox hb;have n0_:=Aside0.mk (Kd.R_below (rz HO0_1.out) hb);have n1_:=Aside0.mk (Kd.R_below (rz HO0_2.out) hb);have n2_:=Aside0.mk (kb BK207.out hb);have n3_:=Aside0.mk (Kept.below (S:=(fun k_=>P0_1_ k_ ∨ P0_2_ k_)) (by repeat (first|(with_reducible first|exact HK.out|apply Kept.alloc|apply Kept.drewN|apply Kept.drew|refine Kept.setCell ?_ (.inr GW207.out) _)|exact HK.out)) hb);have n4_:=Aside0.mk (below_step bs hb);have n5_:=Aside0.mk (hbox);have n6_:=Aside0.mk ((by rw [hg];exact (by first|exact HK.out.1|exact (show Kept w _ (fun k_=>P0_1_ k_ ∨ P0_2_ k_) from by repeat (first|(with_reducible first|exact HK.out|apply Kept.alloc|apply Kept.drewN|apply Kept.drew|refine Kept.setCell ?_ (.inr GW207.out) _)|exact HK.out)).1) : w.heap.size ≤ gb208));have n7_:=Aside0.mk ((by rw [hg];exact (below_size bs) : w0.heap.size ≤ gb208));have n8_:=Aside0.mk (kn hg BK207.out);have n9_:=Aside0.mk (km hg BK207.out);clear HO0_1 HO0_2 BK207 HK HB;have HO0_1:=n0_;have HO0_2:=n1_;have BK207:=n2_;have HK:=n3_;have HB:=n4_;have BK208:=n5_;have GW208:=n6_;have GE208:=n7_;have NB207_208:=n8_;have NB208_207:=n9_;clear n0_ n1_ n2_ n3_ n4_ n5_ n6_ n7_ n8_ n9_;clear hb hbox hg;have hnb17:=NB207_208.out;have hnc17:=NB208_207.out;have hcz18_0 : w16.cell? ⟨gb207,0,none⟩ = some (.int .i64 a0_0):=(blk_cell BK207.out 0).trans rfl;have hcz18_1 : w16.cell? ⟨gb207,1,none⟩ = some (.slice Ao13 l0_1.length co13):=(blk_cell BK207.out 1).trans rfl;have hcz18_2 : w16.cell? ⟨gb207,2,none⟩ = some (.slice Ao14 l0_2.length co14):=(blk_cell BK207.out 2).trans rfl;have hfz18_0:=blk_frozen BK207.out 0;have hfz18_1:=blk_frozen BK207.out 1;have hfz18_2:=blk_frozen BK207.out 2)|((with_reducible refine gate_callee (f:=53) rfl ?_);refine goesL_ (some 5) rfl rfl Try.func53 (by kernel_rfl) rfl #[.agg #[.int .i64 a0_0,.slice Ao13 l0_1.length co13,.slice Ao14 l0_2.length co14]] rfl mz ?_;(with_reducible refine (spec_plGood.calls k a0_0 _ _ l0_1 _ _ l0_2 false _ ?side1 ?side2 ?side3 ?side4 A2.out).mono ?_);(case side1=>exact cz (Kd.R_reads' HO0_1.out).2.2);(case side2=>exact (Kd.R_reads' HO0_1.out).2.1);(case side3=>exact cz (Kd.R_reads' HO0_2.out).2.2);(case side4=>exact (Kd.R_reads' HO0_2.out).2.1);rintro e w19 ⟨rfl,hb⟩;refine ⟨_,rfl,?_⟩;have n0_:=Aside0.mk (Kd.R_below (rz HO0_1.out) hb);have n1_:=Aside0.mk (Kd.R_below (rz HO0_2.out) hb);have n2_:=Aside0.mk (kb BK207.out hb);have n3_:=Aside0.mk (kb BK208.out hb);have n4_:=Aside0.mk (Kept.below (S:=(fun k_=>P0_1_ k_ ∨ P0_2_ k_)) (by repeat (first|(with_reducible first|exact HK.out|apply Kept.alloc|apply Kept.drewN|apply Kept.drew|refine Kept.setCell ?_ (.inr GW207.out) _|refine Kept.setCell ?_ (.inr GW208.out) _)|exact HK.out)) hb);have n5_:=Aside0.mk (below_step bs hb);clear HO0_1 HO0_2 BK207 BK208 HK HB;have HO0_1:=n0_;have HO0_2:=n1_;have BK207:=n2_;have BK208:=n3_;have HK:=n4_;have HB:=n5_;clear n0_ n1_ n2_ n3_ n4_ n5_;(try clear hb);have hcz20_0 : w19.cell? ⟨gb208,0,none⟩ = some (.int .i64 0):=(blk_cell BK208.out 0).trans rfl;have hcz20_1 : w19.cell? ⟨gb208,1,none⟩ = some (.slice none 0 0):=(blk_cell BK208.out 1).trans rfl;have hcz20_2 : w19.cell? ⟨gb208,2,none⟩ = some (.slice none 0 0):=(blk_cell BK208.out 2).trans rfl;have hfz20_0:=blk_frozen BK208.out 0;have hfz20_1:=blk_frozen BK208.out 1;have hfz20_2:=blk_frozen BK208.out 2))
  refine bodyPost_ret (results_ct rfl _ _ gb208 30 #[.int .i64 0,.slice none 0 0,.slice none 0 0] (0,0) _ rfl (by (with_reducible repeat (first|refine blk_drewN ?_ _|refine blk_drew ?_|refine blk_alloc ?_ _));refine blk_put (cs:=#[.int .i64 0,.slice none 0 0,.slice none 0 0]) ?_ 2 _ rfl;(with_reducible repeat (first|refine blk_drewN ?_ _|refine blk_drew ?_|refine blk_alloc ?_ _));refine blk_put (cs:=#[.int .i64 0,.slice none 0 0,.slice none 0 0]) ?_ 1 _ rfl;(with_reducible repeat (first|refine blk_drewN ?_ _|refine blk_drew ?_|refine blk_alloc ?_ _));refine blk_put (cs:=#[.int .i64 0,.slice none 0 0,.slice none 0 0]) ?_ 0 _ rfl;(with_reducible repeat (first|refine blk_drewN ?_ _|refine blk_drew ?_|refine blk_alloc ?_ _));exact BK208.out) Try.underlying30 rfl (by kernel_rfl)) rfl ?_
  exact ⟨_,_,by first|rfl|(simp [errW_none,errW_some] <;> rfl)|(simp [*,errW_none,errW_some] <;> rfl),by first|exact Kd.R_nil _ _ _ _ _|exact Kd.N_nil _ _ _ _ _|exact Kd.V_nil _ _ _ _ _|exact Kd.Q_nil _ _ _ _ _|exact Kd.S_nil _ _ _ _ _,by first|exact Kd.R_nil _ _ _ _ _|exact Kd.N_nil _ _ _ _ _|exact Kd.V_nil _ _ _ _ _|exact Kd.Q_nil _ _ _ _ _|exact Kd.S_nil _ _ _ _ _,by repeat (first|(with_reducible first|exact HB.out|apply below_alloc|apply pw_below_drewN|apply below_drew1|refine below_set ?_ GE207.out|refine below_set ?_ GE208.out)|exact HB.out),by repeat (first|(with_reducible first|exact HK.out|apply Kept.alloc|apply Kept.drewN|apply Kept.drew|refine Kept.setCell ?_ (.inr GW207.out) _|refine Kept.setCell ?_ (.inr GW208.out) _)|exact HK.out)⟩
end Go.Proofs.Ytopkiccdfmjjjaa.MFnExactPickOutputs
--sq
