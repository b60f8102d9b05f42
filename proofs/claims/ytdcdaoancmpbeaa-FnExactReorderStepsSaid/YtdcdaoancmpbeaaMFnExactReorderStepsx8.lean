import Derived.Test.YtdcdaoancmpbeaaMFnExactReorderStepsx0
import Derived.Test.YtdcdaoancmpbeaaMFnExactReorderStepsx3
import Derived.Test.YtdcdaoancmpbeaaMFnExactReorderStepsx7
namespace Go.Proofs.Ytdcdaoancmpbeaa.MFnExactReorderSteps
open Go.RowKit Go.Proofs.YtdcdaoancmpbeaaW.PrintWords Go.Proofs.YtdcdaoancmpbeaaW.PrintLast Go.Proofs.YtdcdaoancmpbeaaW.PrintMore Go.Proofs.YtdcdaoancmpbeaaV Go.Proofs.YtdcdaoancmpbeaaZ
attribute [local go_sem] max2_int min2_int max_two min_two max_three min_three max_four min_four   -- for this text's walks alone
set_option linter.unusedVariables false
set_option linter.unusedSimpArgs false
/-! ### spec_plOrder: function 66 -/
mutual
def spec_plOrder.l0 : Nat → List Int → List Int → Int → Int → Int → List (S73) → List Int → Option (Bool)
 | 0,_,_,_,_,_,_,_=>none
 | k + 1,x1,x14,x15,x16,x216000,x216001,x216002=>if x16 < x15 then (if 0 ≤ x16 then (if x16 < (x14.length : Int) then ((spec_l1In.f (rd x14 x16) 0 (wrap64 ((x216001.length : Int) - 1))).bind fun t217=>(if t217 = true then (if x16 ≤ (x1.length : Int) then ((spec_l1Has.f k (x1.take (x16 : Int).toNat) (rd x14 x16)).bind fun t219=>(spec_plOrder.j1 k x1 x16 (rd x14 x16) x14 x15 x16 t219 x216000 x216001 x216002)) else (none)) else (spec_plOrder.j1 k x1 x16 (rd x14 x16) x14 x15 x16 true x216000 x216001 x216002))) else (none)) else (none)) else (some true)
def spec_plOrder.j1 : Nat → List Int → Int → Int → List Int → Int → Int → Bool → Int → List (S73) → List Int → Option (Bool)
 | 0,_,_,_,_,_,_,_,_,_,_=>none
 | k + 1,x1,x5,x6,x14,x15,x16,x34,x216000,x216001,x216002=>if x34 = true then (some false) else (if 0 ≤ x6 then (if x6 < (x216001.length : Int) then (if ((rd_T73 x216001 x6).f0) ≥ x216000 then (if 0 ≤ x5 then (if x5 ≤ (x1.length : Int) then ((spec_l1Has.f k (x1.take (x5 : Int).toNat) (wrap64 (((rd_T73 x216001 x6).f0) - x216000))).bind fun t223=>(if t223 = true then (if ((rd_T73 x216001 x6).f1) ≥ x216000 then ((spec_l1Has.f k (x1.take (x5 : Int).toNat) (wrap64 (((rd_T73 x216001 x6).f1) - x216000))).bind fun t225=>(if t225 = true then (spec_plOrder.l0 k x1 x14 x15 (wrap64 (x16 + 1)) x216000 x216001 x216002) else (some false))) else (spec_plOrder.l0 k x1 x14 x15 (wrap64 (x16 + 1)) x216000 x216001 x216002)) else (some false))) else (none)) else (none)) else (if ((rd_T73 x216001 x6).f1) ≥ x216000 then (if 0 ≤ x5 then (if x5 ≤ (x1.length : Int) then ((spec_l1Has.f k (x1.take (x5 : Int).toNat) (wrap64 (((rd_T73 x216001 x6).f1) - x216000))).bind fun t227=>(if t227 = true then (spec_plOrder.l0 k x1 x14 x15 (wrap64 (x16 + 1)) x216000 x216001 x216002) else (some false))) else (none)) else (none)) else (spec_plOrder.l0 k x1 x14 x15 (wrap64 (x16 + 1)) x216000 x216001 x216002))) else (none)) else (none))
end
def spec_plOrder.f (k : Nat) (a0_0 : Int) (l0_1 : List (S73)) (l0_2 : List Int) (l1 : List Int) : Option (Bool):=if (l1.length : Int) = (l0_1.length : Int) then (spec_plOrder.l0 k l1 l1 (l1.length : Int) 0 a0_0 l0_1 l0_2) else (some false)
theorem spec_plOrder.mono_l : ∀ k,(∀ y0 y1 y2 y3 y4 y5 y6,LeO (spec_plOrder.l0 k y0 y1 y2 y3 y4 y5 y6) (spec_plOrder.l0 (k + 1) y0 y1 y2 y3 y4 y5 y6)) ∧ (∀ y0 y1 y2 y3 y4 y5 y6 y7 y8 y9,LeO (spec_plOrder.j1 k y0 y1 y2 y3 y4 y5 y6 y7 y8 y9) (spec_plOrder.j1 (k + 1) y0 y1 y2 y3 y4 y5 y6 y7 y8 y9))
 | 0=>⟨fun _ _ _ _ _ _ _ r h=>by simp [spec_plOrder.l0] at h,fun _ _ _ _ _ _ _ _ _ _ r h=>by simp [spec_plOrder.j1] at h⟩
 | k + 1=>by
  obtain ⟨ih0,ih1⟩:=spec_plOrder.mono_l k
  refine ⟨?_,?_⟩
  ·intro y0 y1 y2 y3 y4 y5 y6
   unfold spec_plOrder.l0
   repeat' first
   | (with_reducible exact ih0 _ _ _ _ _ _ _)
   | (with_reducible exact ih1 _ _ _ _ _ _ _ _ _ _)
   | (with_reducible exact spec_l1Has.mono _ _ _)
   | (with_reducible exact LeO.refl _)
   | (with_reducible exact LeO.none _)
   | (with_reducible refine LeO.ite ?_ ?_)
   | (with_reducible refine LeO.bind ?_ (fun _=>?_))
   | exact ih0 _ _ _ _ _ _ _
   | exact ih1 _ _ _ _ _ _ _ _ _ _
   | exact spec_l1Has.mono _ _ _
   | exact LeO.none _
   | refine LeO.ite ?_ ?_
   | refine LeO.bind ?_ (fun _=>?_)
  ·intro y0 y1 y2 y3 y4 y5 y6 y7 y8 y9
   unfold spec_plOrder.j1
   repeat' first
   | (with_reducible exact ih0 _ _ _ _ _ _ _)
   | (with_reducible exact ih1 _ _ _ _ _ _ _ _ _ _)
   | (with_reducible exact spec_l1Has.mono _ _ _)
   | (with_reducible exact LeO.refl _)
   | (with_reducible exact LeO.none _)
   | (with_reducible refine LeO.ite ?_ ?_)
   | (with_reducible refine LeO.bind ?_ (fun _=>?_))
   | exact ih0 _ _ _ _ _ _ _
   | exact ih1 _ _ _ _ _ _ _ _ _ _
   | exact spec_l1Has.mono _ _ _
   | exact LeO.none _
   | refine LeO.ite ?_ ?_
   | refine LeO.bind ?_ (fun _=>?_)
theorem spec_plOrder.mono : ∀ a0 a1 a2 a3 k,LeO (spec_plOrder.f k a0 a1 a2 a3) (spec_plOrder.f (k + 1) a0 a1 a2 a3):=by
 intro a0 a1 a2 a3 k
 obtain ⟨ih0,ih1⟩:=spec_plOrder.mono_l k
 unfold spec_plOrder.f
 repeat' first
   | (with_reducible exact ih0 _ _ _ _ _ _ _)
   | (with_reducible exact ih1 _ _ _ _ _ _ _ _ _ _)
   | (with_reducible exact spec_l1Has.mono _ _ _)
   | (with_reducible exact LeO.refl _)
   | (with_reducible exact LeO.none _)
   | (with_reducible refine LeO.ite ?_ ?_)
   | (with_reducible refine LeO.bind ?_ (fun _=>?_))
   | exact ih0 _ _ _ _ _ _ _
   | exact ih1 _ _ _ _ _ _ _ _ _ _
   | exact spec_l1Has.mono _ _ _
   | exact LeO.none _
   | refine LeO.ite ?_ ?_
   | refine LeO.bind ?_ (fun _=>?_)
def spec_plOrder.T9 : Bool × List (List Nat × List Nat):=(true,[([],[]),([0],[0]),([],[]),([2],[2]),([1,3],[1,3]),([4],[4]),([5],[5]),([5],[5]),([6,7,5],[5,6,7]),([5],[5]),([9,5],[5,9]),([5],[5]),([11,5],[5,11]),([10,12,5],[5,10,12]),([8,13,5,5],[5,8,13]),([14,5],[5,14]),([5,15],[5,15]),([16,14],[16]),([17],[17]),([18,17],[17,18]),([17],[17]),([20,17],[17,20]),([19,21,17],[17,19,21]),([22,17,17],[17,22]),([23],[23]),([23],[23]),([24,25,23],[23,24,25]),([23],[23]),([27,23],[23,27]),([23],[23]),([29,23],[23,29]),([28,30,23],[23,28,30]),([26,31,23,23],[23,26,31]),([32,23],[23,32]),([23,33,17],[17,23,33]),([17,34],[17,34])])
def spec_plOrder.B9 : List Nat:=[0,1,0,4,15,31,63,63,255,63,575,63,2111,7743,16383,32767,65535,131071,262143,524287,262143,1310719,4194303,8388607,16777215,16777215,67108863,16777215,150994943,16777215,553648127,2030043135,4294967295,8589934591,17179869183,34359738367]
theorem spec_plOrder.tab9 : rtab .any (opsOf Try.f66 9) = spec_plOrder.T9:=by kernel_rfl
theorem spec_plOrder.bits9 : waitsOk spec_plOrder.T9.2 spec_plOrder.B9 = true:=by kernel_rfl
set_option maxHeartbeats 8000000 in
set_option maxRecDepth 100000 in
theorem spec_plOrder.calls (k : Nat) (a0_0 : Int) (A0_1 : Option Addr) (c0_1 : Nat) (l0_1 : List (S73)) (A0_2 : Option Addr) (c0_2 : Nat) (l0_2 : List Int) (A1 : Option Addr) (c1 : Nat) (l1 : List Int) (r : Bool) (w : World) (hr0_1 : Kd.C k73 w A0_1 l0_1.length l0_1) (hc0_1 : l0_1.length ≤ c0_1) (hr0_2 : Kd.C (Kd.int .i64) w A0_2 l0_2.length l0_2) (hc0_2 : l0_2.length ≤ c0_2) (hr1 : Kd.C (Kd.int .i64) w A1 l1.length l1) (hc1 : l1.length ≤ c1) (h : spec_plOrder.f k a0_0 l0_1 l0_2 l1 = some r) :
  Calls Try.prog 66 #[.agg #[.int .i64 a0_0,.slice A0_1 l0_1.length c0_1,.slice A0_2 l0_2.length c0_2],.slice A1 l1.length c1] w fun e w'=>e = .returned (.bool r) ∧ Below w.heap.size w w':=by
 have hu29:=Try.underlying29
 have hu73:=Try.underlying73
 have HR0_1:=Aside0.mk hr0_1
 have HC0_1:=Aside0.mk hc0_1
 clear hr0_1 hc0_1
 have HR0_2:=Aside0.mk hr0_2
 have HC0_2:=Aside0.mk hc0_2
 clear hr0_2 hc0_2
 have HR1:=Aside0.mk hr1
 have HC1:=Aside0.mk hc1
 clear hr1 hc1
 have HB:=Aside0.mk (Below.refl w.heap.size w)
 have H : (if (l1.length : Int) = (l0_1.length : Int) then (spec_plOrder.l0 k l1 l1 (l1.length : Int) 0 a0_0 l0_1 l0_2) else (some false)) = some r:=h
 clear h
 by_cases c3 : (l1.length : Int) = (l0_1.length : Int)
 ·rw [if_pos c3] at H
  have c3b0 : ((l1.length : Int) == (l0_1.length : Int)) = true:=beq_iff_eq.mpr c3
  have c3b1 : ((l1.length : Int) != (l0_1.length : Int)) = false:=bne_eq_false_iff_eq.mpr c3
  have c3b2 : (l1.length == l0_1.length) = true:=by first|simpa using c3|(simp at c3 ⊢;omega)
  clear c3
  have H':=Aside0.mk H
  clear H
  go_enter Try.func66,Try.ntmps66
  go_wp2_with (first|((with_reducible refine gate_dst (N:=2) rfl ?_);refine box_event ?hg (N:=2) ?hd (cs:=#[.int .i64 a0_0,.slice A0_1 l0_1.length c0_1,.slice A0_2 l0_2.length c0_2]) (t:=29) ?hr ?_;(case hd=>rfl);(case hg=>rfl);(case hr=>first|(go_simp;done)|(go_simp;rfl));intro gb215 hg w4 hbox hb;have n0_:=Aside0.mk (below_step bz hb);have n1_:=Aside0.mk (hbox);have n2_:=Aside0.mk ((by rw [hg];exact (below_size bz) : w.heap.size ≤ gb215));have n3_:=Aside0.mk ((by rw [hg];exact (below_size bz) : w.heap.size ≤ gb215));clear HB;have HB:=n0_;have BK215:=n1_;have GW215:=n2_;have GE215:=n3_;clear n0_ n1_ n2_ n3_;clear hb hbox hg;have hcz5_0 : w4.cell? ⟨gb215,0,none⟩ = some (.int .i64 a0_0):=(blk_cell BK215.out 0).trans rfl;have hcz5_1 : w4.cell? ⟨gb215,1,none⟩ = some (.slice A0_1 l0_1.length c0_1):=(blk_cell BK215.out 1).trans rfl;have hcz5_2 : w4.cell? ⟨gb215,2,none⟩ = some (.slice A0_2 l0_2.length c0_2):=(blk_cell BK215.out 2).trans rfl;have hfz5_0:=blk_frozen BK215.out 0;have hfz5_1:=blk_frozen BK215.out 1;have hfz5_2:=blk_frozen BK215.out 2))
  go_loopg [16] k (fun kq v16 w'=>∃ (x16_1 : Int),v16 = .int .i64 x16_1 ∧ Aside0 (spec_plOrder.l0 kq l1 l1 (l1.length : Int) x16_1 a0_0 l0_1 l0_2 = some r) ∧ Aside0 (kq ≤ k) ∧ Aside0 (w'.heap[gb215]? = some (.cells #[.int .i64 a0_0,(.slice A0_1 l0_1.length c0_1),(.slice A0_2 l0_2.length c0_2)] 29 (0,0))) ∧ Aside0 (Below w.heap.size w w'))
  case atStart=>exact ⟨(0),fz,H',⟨Nat.le_refl _⟩,⟨by (with_reducible repeat (first|refine blk_drewN ?_ _|refine blk_drew ?_|refine blk_alloc ?_ _));exact BK215.out⟩,⟨by repeat (first|(with_reducible first|exact HB.out|apply below_alloc|apply pw_below_drewN|apply below_drew1|refine below_set ?_ GE215.out)|exact HB.out)⟩⟩
  case round=>
   clear H'
   try clear c1
   try clear p2
   try clear c3
   try clear c3b0
   try clear c3b1
   try clear c3b2
   try clear hcz5_0
   try clear hcz5_1
   try clear hcz5_2
   try clear hfz5_0
   try clear hfz5_1
   try clear hfz5_2
   obtain ⟨x16_1,rfl,HA,HK1,BK215,HB⟩:=hrel
   cases gk with
   | zero=>exact absurd HA.out (by simp [spec_plOrder.l0])
   | succ k1=>
    have H:=HA.out
    clear HA
    simp only [spec_plOrder.l0] at H
    by_cases c6 : x16_1 < (l1.length : Int)
    ·rw [if_pos c6] at H
     have c6b0 : decide (x16_1 < (l1.length : Int)) = true:=decide_eq_true c6
     clear c6
     by_cases c7 : 0 ≤ x16_1
     ·rw [if_pos c7] at H
      have c7b0 : decide (0 ≤ x16_1) = true:=decide_eq_true c7
      clear c7
      by_cases c8 : x16_1 < (l1.length : Int)
      ·rw [if_pos c8] at H
       have c8b0 : decide (x16_1 < (l1.length : Int)) = true:=decide_eq_true c8
       clear c8
       have HC9:=Aside0.mk H
       clear H
       have p216 : 0 ≤ (x16_1 : Int):=of_decide_eq_true az
       have q216 : x16_1 < (l1.length : Int):=of_decide_eq_true az
       obtain ⟨ad216,e216,hx216_0⟩:=Kd.at_int HR1.out x16_1 p216 q216
       cases e216
       replace hx216_0:=(HB.out.cell (World.block_lt_of_cell? w _ hx216_0)).trans hx216_0
       replace p216:=eq_true p216
       replace q216:=eq_true q216
       go_upto_region 6 with (fail)
       go_cut [34] (fun v34 wc=>∃ (kq : Nat) (x34_8 : Bool),v34 = .bool x34_8 ∧ Aside0 (spec_plOrder.j1 kq l1 x16_1 (rd l1 x16_1) l1 (l1.length : Int) x16_1 x34_8 a0_0 l0_1 l0_2 = some r) ∧ Aside0 (kq ≤ k1) ∧ Aside0 (wc.heap[gb215]? = some (.cells #[.int .i64 a0_0,(.slice A0_1 l0_1.length c0_1),(.slice A0_2 l0_2.length c0_2)] 29 (0,0))) ∧ Aside0 (Below w.heap.size w wc))
       case first=>
        have H:=HC9.out
        clear HC9
        obtain ⟨t217,A10,H⟩:=bd H
        by_cases c11 : t217 = true
        ·subst c11
         rw [if_pos rfl] at H
         have c12b0:=eq_true (of_decide_eq_true az : 0 ≤ x16_1)
         by_cases c13 : x16_1 ≤ (l1.length : Int)
         ·rw [if_pos c13] at H
          have c13b0:=eq_true c13
          have c13b1 : decide (x16_1 ≤ (l1.length : Int)) = true:=decide_eq_true c13
          clear c13
          obtain ⟨t219,A14,H⟩:=bd H
          have H':=Aside0.mk H
          clear H
          have hcz15_0 : wr.cell? ⟨gb215,0,none⟩ = some (.int .i64 a0_0):=(blk_cell BK215.out 0).trans rfl
          have hcz15_1 : wr.cell? ⟨gb215,1,none⟩ = some (.slice A0_1 l0_1.length c0_1):=(blk_cell BK215.out 1).trans rfl
          have hcz15_2 : wr.cell? ⟨gb215,2,none⟩ = some (.slice A0_2 l0_2.length c0_2):=(blk_cell BK215.out 2).trans rfl
          have hfz15_0:=blk_frozen BK215.out 0
          have hfz15_1:=blk_frozen BK215.out 1
          have hfz15_2:=blk_frozen BK215.out 2
          go_wp2_with (first|((with_reducible refine gate_callee (f:=82) rfl ?_);refine goesL_ (some 26) rfl rfl Try.func82 (by kernel_rfl) rfl #[.int .i64 (rd l1 x16_1),.int .i64 0,.int .i64 (wrap64 ((l0_1.length : Int) - 1))] rfl mz ?_;(with_reducible refine (spec_l1In.calls (rd l1 x16_1) 0 (wrap64 ((l0_1.length : Int) - 1)) true _ A10.out).mono ?_);rintro e w' ⟨rfl,⟨nd,rfl⟩⟩;refine ⟨_,rfl,?_⟩;obtain ⟨i016,hi016,_,hsz16,_⟩:=info_parts info3;obtain ⟨hcut16,hA16,hC16⟩:=print_take_of (P:=Try.prog) (Value.int .i64) 0 23 3 .i64 Try.underlying23 hi016 hsz16 (some ad216) c1 l1 x16_1 (of_decide_eq_true az) (of_decide_eq_true az) HC1.out;have HR218:=Aside0.mk (Kd.C_of_reads (h1:=fun _=>rfl) (hA16 _ (Kd.reads_of_C HR1.out)));have HC218:=Aside0.mk hC16;clear hA16 hC16 hi016 hsz16)|(go_at_call 98;refine calls_of_args (args':=#[.slice (some ad216) (l1.take (x16_1 : Int).toNat).length c1,.int .i64 (rd l1 x16_1)]) (by rw [show (l1.take (x16_1 : Int).toNat).length = x16_1.toNat from (by rw [List.length_take];have h_ : (x16_1 : Int) ≤ (l1.length : Int):=of_decide_eq_true az;omega)]) ?_;(with_reducible refine (spec_l1Has.calls k1 _ _ (l1.take (x16_1 : Int).toNat) (rd l1 x16_1) t219 _ ?side1 ?side2 A14.out).mono ?_);(case side1=>exact cz (Kd.C_below HR218.out bs));(case side2=>exact HC218.out);rintro e w' ⟨rfl,⟨nd,rfl⟩⟩))
          go_meet
          case rel=>exact ⟨_,(t219),fz,H',⟨by have:=HK1.out;first|omega|exact Nat.le_refl _⟩,⟨by (with_reducible repeat (first|refine blk_drewN ?_ _|refine blk_drew ?_|refine blk_alloc ?_ _));exact BK215.out⟩,⟨by repeat (first|(with_reducible first|exact HB.out|apply below_alloc|apply pw_below_drewN|apply below_drew1|refine below_set ?_ GE215.out)|exact HB.out)⟩⟩
         ·rw [if_neg c13] at H
          exact absurd H (by simp)
        ·replace c11:=Bool.eq_false_iff.mpr c11
         subst c11
         rw [if_neg (show ¬ (false = true) by decide)] at H
         have H':=Aside0.mk H
         clear H
         have hcz17_0 : wr.cell? ⟨gb215,0,none⟩ = some (.int .i64 a0_0):=(blk_cell BK215.out 0).trans rfl
         have hcz17_1 : wr.cell? ⟨gb215,1,none⟩ = some (.slice A0_1 l0_1.length c0_1):=(blk_cell BK215.out 1).trans rfl
         have hcz17_2 : wr.cell? ⟨gb215,2,none⟩ = some (.slice A0_2 l0_2.length c0_2):=(blk_cell BK215.out 2).trans rfl
         have hfz17_0:=blk_frozen BK215.out 0
         have hfz17_1:=blk_frozen BK215.out 1
         have hfz17_2:=blk_frozen BK215.out 2
         go_wp2_with (first|((with_reducible refine gate_callee (f:=82) rfl ?_);refine goesL_ (some 26) rfl rfl Try.func82 (by kernel_rfl) rfl #[.int .i64 (rd l1 x16_1),.int .i64 0,.int .i64 (wrap64 ((l0_1.length : Int) - 1))] rfl mz ?_;(with_reducible refine (spec_l1In.calls (rd l1 x16_1) 0 (wrap64 ((l0_1.length : Int) - 1)) false _ A10.out).mono ?_);rintro e w' ⟨rfl,⟨nd,rfl⟩⟩;refine ⟨_,rfl,?_⟩))
         go_meet
         case rel=>exact ⟨_,(true),fz,H',⟨by have:=HK1.out;first|omega|exact Nat.le_refl _⟩,⟨by (with_reducible repeat (first|refine blk_drewN ?_ _|refine blk_drew ?_|refine blk_alloc ?_ _));exact BK215.out⟩,⟨by repeat (first|(with_reducible first|exact HB.out|apply below_alloc|apply pw_below_drewN|apply below_drew1|refine below_set ?_ GE215.out)|exact HB.out)⟩⟩
       case rest=>
        clear HC9
        try clear c1
        try clear p2
        try clear q2
        try clear hx2
        try clear c3
        try clear c3b0
        try clear c3b1
        try clear c3b2
        try clear c6
        try clear c6b0
        try clear p6
        try clear c7
        try clear c7b0
        try clear c8
        try clear c8b0
        try clear c11
        try clear c12
        try clear c12b0
        try clear c13
        try clear c13b0
        try clear c13b1
        try clear hcz15_0
        try clear hcz15_1
        try clear hcz15_2
        try clear hcz17_0
        try clear hcz17_1
        try clear hcz17_2
        try clear hcz5_0
        try clear hcz5_1
        try clear hcz5_2
        try clear hfz15_0
        try clear hfz15_1
        try clear hfz15_2
        try clear hfz17_0
        try clear hfz17_1
        try clear hfz17_2
        try clear hfz5_0
        try clear hfz5_1
        try clear hfz5_2
        try clear hx216_0
        try clear p2
        try clear p216
        try clear q216
        obtain ⟨kq,x34_8,rfl,HA,HJ8,BK215,HB⟩:=hcut
        cases kq with
        | zero=>exact absurd HA.out (by simp [spec_plOrder.j1])
        | succ kj8=>
         have H:=HA.out
         clear HA
         simp only [spec_plOrder.j1] at H
         by_cases c18 : x34_8 = true
         ·subst c18
          rw [if_pos rfl] at H
          obtain rfl:=Option.some.inj H
          go_wp2
          go_ret
          exact ⟨by first|rfl|(simp [errW_none,errW_some] <;> rfl)|(simp [*,errW_none,errW_some] <;> rfl),by repeat (first|(with_reducible first|exact HB.out|apply below_alloc|apply pw_below_drewN|apply below_drew1|refine below_set ?_ GE215.out)|exact HB.out)⟩
         ·replace c18:=Bool.eq_false_iff.mpr c18
          subst c18
          rw [if_neg (show ¬ (false = true) by decide)] at H
          by_cases c19 : 0 ≤ (rd l1 x16_1)
          ·rw [if_pos c19] at H
           have c19b0 : decide (0 ≤ (rd l1 x16_1)) = true:=decide_eq_true c19
           clear c19
           by_cases c20 : (rd l1 x16_1) < (l0_1.length : Int)
           ·rw [if_pos c20] at H
            have c20b0 : decide ((rd l1 x16_1) < (l0_1.length : Int)) = true:=decide_eq_true c20
            clear c20
            by_cases c21 : ((rd_T73 l0_1 (rd l1 x16_1)).f0) ≥ a0_0
            ·rw [if_pos c21] at H
             have c21b0 : decide (a0_0 ≤ ((rd_T73 l0_1 (rd l1 x16_1)).f0)) = true:=decide_eq_true c21
             clear c21
             by_cases c22 : 0 ≤ x16_1
             ·rw [if_pos c22] at H
              have c22b0:=eq_true c22
              have c22b1 : decide (0 ≤ x16_1) = true:=decide_eq_true c22
              clear c22
              by_cases c23 : x16_1 ≤ (l1.length : Int)
              ·rw [if_pos c23] at H
               have c23b0:=eq_true c23
               have c23b1 : decide (x16_1 ≤ (l1.length : Int)) = true:=decide_eq_true c23
               clear c23
               obtain ⟨t223,A24,H⟩:=bd H
               by_cases c25 : t223 = true
               ·subst c25
                rw [if_pos rfl] at H
                by_cases c26 : ((rd_T73 l0_1 (rd l1 x16_1)).f1) ≥ a0_0
                ·rw [if_pos c26] at H
                 have c26b0 : decide (a0_0 ≤ ((rd_T73 l0_1 (rd l1 x16_1)).f1)) = true:=decide_eq_true c26
                 clear c26
                 have c27b0:=eq_true (of_decide_eq_true az : 0 ≤ x16_1)
                 have c28b0:=eq_true (of_decide_eq_true az : x16_1 ≤ (l1.length : Int))
                 obtain ⟨t225,A29,H⟩:=bd H
                 by_cases c30 : t225 = true
                 ·subst c30
                  rw [if_pos rfl] at H
                  have H':=Aside0.mk H
                  clear H
                  have hcz31_0 : wc.cell? ⟨gb215,0,none⟩ = some (.int .i64 a0_0):=(blk_cell BK215.out 0).trans rfl
                  have hcz31_1 : wc.cell? ⟨gb215,1,none⟩ = some (.slice A0_1 l0_1.length c0_1):=(blk_cell BK215.out 1).trans rfl
                  have hcz31_2 : wc.cell? ⟨gb215,2,none⟩ = some (.slice A0_2 l0_2.length c0_2):=(blk_cell BK215.out 2).trans rfl
                  have hfz31_0:=blk_frozen BK215.out 0
                  have hfz31_1:=blk_frozen BK215.out 1
                  have hfz31_2:=blk_frozen BK215.out 2
                  have p220 : 0 ≤ ((rd l1 x16_1) : Int):=of_decide_eq_true az
                  have q220 : (rd l1 x16_1) < (l0_1.length : Int):=of_decide_eq_true az
                  obtain ⟨ad220,e220,hx220_0,hx220_1⟩:=at_T73 HR0_1.out (rd l1 x16_1) p220 q220
                  cases e220
                  replace hx220_0:=(HB.out.cell (World.block_lt_of_cell? w _ hx220_0)).trans hx220_0
                  replace hx220_1:=(HB.out.cell (World.block_lt_of_cell? w _ hx220_1)).trans hx220_1
                  replace p220:=eq_true p220
                  replace q220:=eq_true q220
                  try go_wp2_with (first|((with_reducible refine gate_dst (N:=7) rfl ?_);refine box_event ?hg (N:=7) ?hd (cs:=#[.int .i64 0,.int .i64 0]) (t:=73) ?hr ?_;(case hd=>rfl);(case hg=>rfl);(case hr=>first|(go_simp;done)|(go_simp;rfl));intro gb221 hg w32 hbox hb;have n0_:=Aside0.mk (kb BK215.out hb);have n1_:=Aside0.mk (below_step bs hb);have n2_:=Aside0.mk (hbox);have n3_:=Aside0.mk ((by rw [hg];exact (below_size bs) : w.heap.size ≤ gb221));have n4_:=Aside0.mk ((by rw [hg];exact (below_size bs) : w.heap.size ≤ gb221));have n5_:=Aside0.mk (kn hg BK215.out);have n6_:=Aside0.mk (km hg BK215.out);clear BK215 HB;have BK215:=n0_;have HB:=n1_;have BK221:=n2_;have GW221:=n3_;have GE221:=n4_;have NB215_221:=n5_;have NB221_215:=n6_;clear n0_ n1_ n2_ n3_ n4_ n5_ n6_;clear hb hbox hg;have hnb33:=NB221_215.out;have hnc33:=NB215_221.out;have hcz34_0 : w32.cell? ⟨gb221,0,none⟩ = some (.int .i64 0):=(blk_cell BK221.out 0).trans rfl;have hcz34_1 : w32.cell? ⟨gb221,1,none⟩ = some (.int .i64 0):=(blk_cell BK221.out 1).trans rfl;have hfz34_0:=blk_frozen BK221.out 0;have hfz34_1:=blk_frozen BK221.out 1))
                  have n0_ : Aside0 (((w32.setCell ⟨gb221,0,none⟩ (.int .i64 ((rd_T73 l0_1 (rd l1 x16_1)).f0))).setCell ⟨gb221,1,none⟩ (.int .i64 ((rd_T73 l0_1 (rd l1 x16_1)).f1))).heap[gb215]? = some (.cells #[.int .i64 a0_0,.slice (some ad220) l0_1.length c0_1,.slice A0_2 l0_2.length c0_2] 29 (0,0))):=⟨by (with_reducible repeat (first|refine blk_drewN ?_ _|refine blk_drew ?_|refine blk_alloc ?_ _));refine blk_far ?_ NB215_221.out _;(with_reducible repeat (first|refine blk_drewN ?_ _|refine blk_drew ?_|refine blk_alloc ?_ _));refine blk_far ?_ NB215_221.out _;(with_reducible repeat (first|refine blk_drewN ?_ _|refine blk_drew ?_|refine blk_alloc ?_ _));exact BK215.out⟩
                  have n1_ : Aside0 (((w32.setCell ⟨gb221,0,none⟩ (.int .i64 ((rd_T73 l0_1 (rd l1 x16_1)).f0))).setCell ⟨gb221,1,none⟩ (.int .i64 ((rd_T73 l0_1 (rd l1 x16_1)).f1))).heap[gb221]? = some (.cells #[.int .i64 ((rd_T73 l0_1 (rd l1 x16_1)).f0),.int .i64 ((rd_T73 l0_1 (rd l1 x16_1)).f1)] 73 (0,0))):=⟨by (with_reducible repeat (first|refine blk_drewN ?_ _|refine blk_drew ?_|refine blk_alloc ?_ _));refine blk_put (cs:=#[.int .i64 ((rd_T73 l0_1 (rd l1 x16_1)).f0),.int .i64 0]) ?_ 1 _ rfl;(with_reducible repeat (first|refine blk_drewN ?_ _|refine blk_drew ?_|refine blk_alloc ?_ _));refine blk_put (cs:=#[.int .i64 0,.int .i64 0]) ?_ 0 _ rfl;(with_reducible repeat (first|refine blk_drewN ?_ _|refine blk_drew ?_|refine blk_alloc ?_ _));exact BK221.out⟩
                  have n2_ : Aside0 (Below w.heap.size w ((w32.setCell ⟨gb221,0,none⟩ (.int .i64 ((rd_T73 l0_1 (rd l1 x16_1)).f0))).setCell ⟨gb221,1,none⟩ (.int .i64 ((rd_T73 l0_1 (rd l1 x16_1)).f1)))):=⟨by repeat (first|(with_reducible first|exact HB.out|apply below_alloc|apply pw_below_drewN|apply below_drew1|refine below_set ?_ GE215.out|refine below_set ?_ GE221.out)|exact HB.out)⟩
                  (try clear BK215)
                  (try clear BK221)
                  (try clear HB)
                  generalize ((w32.setCell ⟨gb221,0,none⟩ (.int .i64 ((rd_T73 l0_1 (rd l1 x16_1)).f0))).setCell ⟨gb221,1,none⟩ (.int .i64 ((rd_T73 l0_1 (rd l1 x16_1)).f1))) = w35 at n0_ n1_ n2_ ⊢
                  have BK215:=n0_
                  have BK221:=n1_
                  have HB:=n2_
                  clear n0_ n1_ n2_
                  have n0_:=Aside0.mk (blk_drew BK215.out)
                  have n1_:=Aside0.mk (blk_drew BK221.out)
                  have n2_:=Aside0.mk (below_drew1 HB.out)
                  clear BK215
                  clear BK221
                  clear HB
                  have BK215:=n0_
                  have BK221:=n1_
                  have HB:=n2_
                  clear n0_ n1_ n2_
                  obtain ⟨i037,hi037,_,hsz37,_⟩:=info_parts info3
                  obtain ⟨hcut37,hA37,hC37⟩:=print_take_of (P:=Try.prog) (Value.int .i64) 0 23 3 .i64 Try.underlying23 hi037 hsz37 (some ad216) c1 l1 x16_1 (of_decide_eq_true az) (of_decide_eq_true az) HC1.out
                  have HR222:=Aside0.mk (Kd.C_of_reads (h1:=fun _=>rfl) (hA37 _ (Kd.reads_of_C HR1.out)))
                  have HC222:=Aside0.mk hC37
                  clear hA37 hC37 hi037 hsz37
                  refine start_ (n:=36) (S:=fun w'=>w'.cell? ⟨gb221,0,none⟩ = some (.int .i64 ((rd_T73 l0_1 (rd l1 x16_1)).f0)) ∧ w'.cell? ⟨gb221,1,none⟩ = some (.int .i64 ((rd_T73 l0_1 (rd l1 x16_1)).f1)) ∧ w'.cell? ⟨gb215,0,none⟩ = some (.int .i64 a0_0) ∧ w'.cell? ⟨gb215,1,none⟩ = some (.slice (some ad220) l0_1.length c0_1) ∧ w'.cell? ⟨gb215,2,none⟩ = some (.slice A0_2 l0_2.length c0_2)) (ds:=[]) #[false,false,false,false,false,false,false,false,false,false,false,false,false,false,false,false,false,false,false,false,false,false,false,false,false,false,false,false,false,false,false,false,false,false,false,false] (by kernel_rfl) rfl rfl ⟨(blk_cell BK221.out 0).trans rfl,(blk_cell BK221.out 1).trans rfl,(blk_cell BK215.out 0).trans rfl,(blk_cell BK215.out 1).trans rfl,(blk_cell BK215.out 2).trans rfl⟩ (fun hHeld=>?_);refine with_tabW spec_plOrder.tab9 spec_plOrder.bits9 (fun HT_ HW_=>?_)
                  generalize w35.drew = w36 at BK215 BK221 HB HR222 hHeld ⊢
                  refine pure_ (i:=0) (N:=some 40) (v:=?_) (a':=?_) #[true,false,false,false,false,false,false,false,false,false,false,false,false,false,false,false,false,false,false,false,false,false,false,false,false,false,false,false,false,false,false,false,false,false,false,false] rfl rfl (any_of HT_.out (by kernel_rfl)) (fun _ _ _ h=>h) (Or.inl ⟨by rfl,?_⟩) ?_ ?_
                  rotate_left
                  ·intro w'
                   go_simp
                   with_reducible rfl
                  rotate_left
                  ·simp only [Act.put,xa,xb,xc,i64_w,i32_w]
                   rfl
                  refine pure_ (i:=2) (N:=some 42) (v:=?_) (a':=?_) #[true,false,true,false,false,false,false,false,false,false,false,false,false,false,false,false,false,false,false,false,false,false,false,false,false,false,false,false,false,false,false,false,false,false,false,false] rfl rfl (any_of HT_.out (by kernel_rfl)) (fun _ _ _ h=>h) (Or.inl ⟨by rfl,?_⟩) ?_ ?_
                  rotate_left
                  ·intro w'
                   go_simp
                   with_reducible rfl
                  rotate_left
                  ·simp only [Act.put,xa,xb,xc,i64_w,i32_w]
                   rfl
                  refine take_ (i:=1) (N:=some 41) (v:=?_) (a':=?_) #[true,true,true,false,false,false,false,false,false,false,false,false,false,false,false,false,false,false,false,false,false,false,false,false,false,false,false,false,false,false,false,false,false,false,false,false] rfl rfl (take_ofW HT_.out HW_.out (by kernel_rfl)) (fun _ _ _ h=>h) (Or.inl ⟨by rfl,?_⟩) hHeld ?_ ?_
                  rotate_left
                  ·rintro w' ⟨s0,s1,s2,s3,s4⟩
                   go_simp
                   with_reducible rfl
                  rotate_left
                  ·simp only [Act.put,xa,xb,xc,i64_w,i32_w]
                   rfl
                  refine take_ (i:=3) (N:=some 43) (v:=?_) (a':=?_) #[true,true,true,true,false,false,false,false,false,false,false,false,false,false,false,false,false,false,false,false,false,false,false,false,false,false,false,false,false,false,false,false,false,false,false,false] rfl rfl (take_ofW HT_.out HW_.out (by kernel_rfl)) (fun _ _ _ h=>h) (Or.inl ⟨by rfl,?_⟩) hHeld ?_ ?_
                  rotate_left
                  ·rintro w' ⟨s0,s1,s2,s3,s4⟩
                   go_simp
                   with_reducible rfl
                  rotate_left
                  ·simp only [Act.put,xa,xb,xc,i64_w,i32_w]
                   rfl
                  refine pure_ (i:=4) (N:=some 44) (v:=?_) (a':=?_) #[true,true,true,true,true,false,false,false,false,false,false,false,false,false,false,false,false,false,false,false,false,false,false,false,false,false,false,false,false,false,false,false,false,false,false,false] rfl rfl (any_of HT_.out (by kernel_rfl)) (fun _ _ _ h=>h) (Or.inl ⟨by rfl,?_⟩) ?_ ?_
                  rotate_left
                  ·intro w'
                   go_simp
                   with_reducible rfl
                  rotate_left
                  ·simp only [Act.put,xa,xb,xc,i64_w,i32_w]
                   rfl
                  refine pure_ (i:=5) (N:=some 45) (v:=?_) (a':=?_) #[true,true,true,true,true,true,false,false,false,false,false,false,false,false,false,false,false,false,false,false,false,false,false,false,false,false,false,false,false,false,false,false,false,false,false,false] rfl rfl (any_of HT_.out (by kernel_rfl)) (fun _ _ _ h=>h) (Or.inl ⟨by rfl,?_⟩) ?_ ?_
                  rotate_left
                  ·intro w'
                   go_simp
                   with_reducible rfl
                  rotate_left
                  ·simp only [Act.put,xa,xb,xc,i64_w,i32_w]
                   rfl
                  refine pure_ (i:=6) (N:=some 46) (v:=?_) (a':=?_) #[true,true,true,true,true,true,true,false,false,false,false,false,false,false,false,false,false,false,false,false,false,false,false,false,false,false,false,false,false,false,false,false,false,false,false,false] rfl rfl (any_of HT_.out (by kernel_rfl)) (fun _ _ _ h=>h) (Or.inl ⟨by rfl,?_⟩) ?_ ?_
                  rotate_left
                  ·intro w'
                   go_simp
                   with_reducible rfl
                  rotate_left
                  ·simp only [Act.put,xa,xb,xc,i64_w,i32_w]
                   rfl
                  refine pure_ (i:=7) (N:=some 47) (v:=?_) (a':=?_) #[true,true,true,true,true,true,true,true,false,false,false,false,false,false,false,false,false,false,false,false,false,false,false,false,false,false,false,false,false,false,false,false,false,false,false,false] rfl rfl (any_of HT_.out (by kernel_rfl)) (fun _ _ _ h=>h) (Or.inl ⟨by rfl,?_⟩) ?_ ?_
                  rotate_left
                  ·intro w'
                   go_simp
                   with_reducible rfl
                  rotate_left
                  ·simp only [Act.put,xa,xb,xc,i64_w,i32_w]
                   rfl
                  refine pure_ (i:=8) (N:=some 48) (v:=?_) (a':=?_) #[true,true,true,true,true,true,true,true,true,false,false,false,false,false,false,false,false,false,false,false,false,false,false,false,false,false,false,false,false,false,false,false,false,false,false,false] rfl rfl (any_of HT_.out (by kernel_rfl)) (fun _ _ _ h=>h) (Or.inl ⟨by rfl,?_⟩) ?_ ?_
                  rotate_left
                  ·intro w'
                   go_simp
                   with_reducible rfl
                  rotate_left
                  ·simp only [Act.put,xa,xb,xc,i64_w,i32_w]
                   rfl
                  refine pure_ (i:=9) (N:=some 49) (v:=?_) (a':=?_) #[true,true,true,true,true,true,true,true,true,true,false,false,false,false,false,false,false,false,false,false,false,false,false,false,false,false,false,false,false,false,false,false,false,false,false,false] rfl rfl (any_of HT_.out (by kernel_rfl)) (fun _ _ _ h=>h) (Or.inl ⟨by rfl,?_⟩) ?_ ?_
                  rotate_left
                  ·intro w'
                   go_simp
                   with_reducible rfl
                  rotate_left
                  ·simp only [Act.put,xa,xb,xc,i64_w,i32_w]
                   rfl
                  refine pure_ (i:=11) (N:=some 51) (v:=?_) (a':=?_) #[true,true,true,true,true,true,true,true,true,true,false,true,false,false,false,false,false,false,false,false,false,false,false,false,false,false,false,false,false,false,false,false,false,false,false,false] rfl rfl (any_of HT_.out (by kernel_rfl)) (fun _ _ _ h=>h) (Or.inl ⟨by rfl,?_⟩) ?_ ?_
                  rotate_left
                  ·intro w'
                   go_simp
                   with_reducible rfl
                  rotate_left
                  ·simp only [Act.put,xa,xb,xc,i64_w,i32_w]
                   rfl
                  refine take_ (i:=10) (N:=some 50) (v:=?_) (a':=?_) #[true,true,true,true,true,true,true,true,true,true,true,true,false,false,false,false,false,false,false,false,false,false,false,false,false,false,false,false,false,false,false,false,false,false,false,false] rfl rfl (take_ofW HT_.out HW_.out (by kernel_rfl)) (fun _ _ _ h=>h) (Or.inl ⟨by rfl,?_⟩) hHeld ?_ ?_
                  rotate_left
                  ·rintro w' ⟨s0,s1,s2,s3,s4⟩
                   go_simp
                   with_reducible rfl
                  rotate_left
                  ·simp only [Act.put,xa,xb,xc,i64_w,i32_w]
                   rfl
                  refine take_ (i:=12) (N:=some 52) (v:=?_) (a':=?_) #[true,true,true,true,true,true,true,true,true,true,true,true,true,false,false,false,false,false,false,false,false,false,false,false,false,false,false,false,false,false,false,false,false,false,false,false] rfl rfl (take_ofW HT_.out HW_.out (by kernel_rfl)) (fun _ _ _ h=>h) (Or.inl ⟨by rfl,?_⟩) hHeld ?_ ?_
                  rotate_left
                  ·rintro w' ⟨s0,s1,s2,s3,s4⟩
                   go_simp
                   with_reducible rfl
                  rotate_left
                  ·simp only [Act.put,xa,xb,xc,i64_w,i32_w]
                   rfl
                  refine pure_ (i:=13) (N:=some 53) (v:=?_) (a':=?_) #[true,true,true,true,true,true,true,true,true,true,true,true,true,true,false,false,false,false,false,false,false,false,false,false,false,false,false,false,false,false,false,false,false,false,false,false] rfl rfl (any_of HT_.out (by kernel_rfl)) (fun _ _ _ h=>h) (Or.inl ⟨by rfl,?_⟩) ?_ ?_
                  rotate_left
                  ·intro w'
                   go_simp
                   with_reducible rfl
                  rotate_left
                  ·simp only [Act.put,xa,xb,xc,i64_w,i32_w]
                   rfl
                  refine one_ (i:=14) (N:=some 54) #[true,true,true,true,true,true,true,true,true,true,true,true,true,true,true,false,false,false,false,false,false,false,false,false,false,false,false,false,false,false,false,false,false,false,false,false] rfl rfl (one_of HT_.out (by kernel_rfl)) (by decide) (fun K hK=>?_)
                  refine goes_ Try.func98 (by kernel_rfl) rfl #[.slice (some ad216) (l1.take (x16_1 : Int).toNat).length c1,.int .i64 (wrap64 (((rd_T73 l0_1 (rd l1 x16_1)).f0) - a0_0))] (by rfl) rfl rfl (by (try simp only [List.map_toArray,List.map_cons,List.map_nil]);first|done|(rw [show (l1.take (x16_1 : Int).toNat).length = x16_1.toNat from (by rw [List.length_take];have h_ : (x16_1 : Int) ≤ (l1.length : Int):=of_decide_eq_true az;omega)] <;> rfl)|rfl|(simp only [List.length_drop,List.length_take];rfl)) ?_
                  with_reducible refine (spec_l1Has.calls kj8 _ _ (l1.take (x16_1 : Int).toNat) (wrap64 (((rd_T73 l0_1 (rd l1 x16_1)).f0) - a0_0)) true _ ?side1 ?side2 A24.out).mono ?_
                  (case side1=>exact cz (Kd.C_below HR222.out HB.out))
                  (case side2=>exact HC222.out)
                  rintro e w' ⟨rfl,⟨nd,rfl⟩⟩
                  refine ⟨_,rfl,?_⟩
                  obtain ⟨i038,hi038,_,hsz38,_⟩:=info_parts info3
                  obtain ⟨hcut38,hA38,hC38⟩:=print_take_of (P:=Try.prog) (Value.int .i64) 0 23 3 .i64 Try.underlying23 hi038 hsz38 (some ad216) c1 l1 x16_1 (of_decide_eq_true az) (of_decide_eq_true az) HC1.out
                  have HR224:=Aside0.mk (Kd.C_of_reads (h1:=fun _=>rfl) (hA38 _ (Kd.reads_of_C HR1.out)))
                  have HC224:=Aside0.mk hC38
                  clear hA38 hC38 hi038 hsz38
                  refine hK.out _ _ ⟨(blk_cell BK221.out 0).trans rfl,(blk_cell BK221.out 1).trans rfl,(blk_cell BK215.out 0).trans rfl,(blk_cell BK215.out 1).trans rfl,(blk_cell BK215.out 2).trans rfl⟩ (fun hHeld=>?_)
                  clear hK K
                  refine norm_ (a':=?_) ?_ ?_
                  rotate_left
                  ·show Act.put _ (some 54) _ = _
                   simp only [Act.put,xa,xb,xc,i64_w,i32_w]
                   rfl
                  refine pure_ (i:=15) (N:=some 55) (v:=?_) (a':=?_) #[true,true,true,true,true,true,true,true,true,true,true,true,true,true,true,true,false,false,false,false,false,false,false,false,false,false,false,false,false,false,false,false,false,false,false,false] rfl rfl (any_of HT_.out (by kernel_rfl)) (fun _ _ _ h=>h) (Or.inl ⟨by rfl,?_⟩) ?_ ?_
                  rotate_left
                  ·intro w'
                   go_simp
                   with_reducible rfl
                  rotate_left
                  ·simp only [Act.put,xa,xb,xc,i64_w,i32_w]
                   rfl
                  refine pure_ (i:=16) (N:=some 56) (v:=?_) (a':=?_) #[true,true,true,true,true,true,true,true,true,true,true,true,true,true,true,true,true,false,false,false,false,false,false,false,false,false,false,false,false,false,false,false,false,false,false,false] rfl rfl (any_of HT_.out (by kernel_rfl)) (fun _ _ _ h=>h) (Or.inl ⟨by rfl,?_⟩) ?_ ?_
                  rotate_left
                  ·intro w'
                   go_simp
                   with_reducible rfl
                  rotate_left
                  ·simp only [Act.put,xa,xb,xc,i64_w,i32_w]
                   rfl
                  refine pure_ (i:=17) (N:=some 57) (v:=?_) (a':=?_) #[true,true,true,true,true,true,true,true,true,true,true,true,true,true,true,true,true,true,false,false,false,false,false,false,false,false,false,false,false,false,false,false,false,false,false,false] rfl rfl (any_of HT_.out (by kernel_rfl)) (fun _ _ _ h=>h) (Or.inl ⟨by rfl,?_⟩) ?_ ?_
                  rotate_left
                  ·intro w'
                   go_simp
                   with_reducible rfl
                  rotate_left
                  ·simp only [Act.put,xa,xb,xc,i64_w,i32_w]
                   rfl
                  refine pure_ (i:=18) (N:=some 58) (v:=?_) (a':=?_) #[true,true,true,true,true,true,true,true,true,true,true,true,true,true,true,true,true,true,true,false,false,false,false,false,false,false,false,false,false,false,false,false,false,false,false,false] rfl rfl (any_of HT_.out (by kernel_rfl)) (fun _ _ _ h=>h) (Or.inl ⟨by rfl,?_⟩) ?_ ?_
                  rotate_left
                  ·intro w'
                   go_simp
                   with_reducible rfl
                  rotate_left
                  ·simp only [Act.put,xa,xb,xc,i64_w,i32_w]
                   rfl
                  refine pure_ (i:=20) (N:=some 60) (v:=?_) (a':=?_) #[true,true,true,true,true,true,true,true,true,true,true,true,true,true,true,true,true,true,true,false,true,false,false,false,false,false,false,false,false,false,false,false,false,false,false,false] rfl rfl (any_of HT_.out (by kernel_rfl)) (fun _ _ _ h=>h) (Or.inl ⟨by rfl,?_⟩) ?_ ?_
                  rotate_left
                  ·intro w'
                   go_simp
                   with_reducible rfl
                  rotate_left
                  ·simp only [Act.put,xa,xb,xc,i64_w,i32_w]
                   rfl
                  refine take_ (i:=19) (N:=some 59) (v:=?_) (a':=?_) #[true,true,true,true,true,true,true,true,true,true,true,true,true,true,true,true,true,true,true,true,true,false,false,false,false,false,false,false,false,false,false,false,false,false,false,false] rfl rfl (take_ofW HT_.out HW_.out (by kernel_rfl)) (fun _ _ _ h=>h) (Or.inl ⟨by rfl,?_⟩) hHeld ?_ ?_
                  rotate_left
                  ·rintro w' ⟨s0,s1,s2,s3,s4⟩
                   go_simp
                   with_reducible rfl
                  rotate_left
                  ·simp only [Act.put,xa,xb,xc,i64_w,i32_w]
                   rfl
                  refine take_ (i:=21) (N:=some 61) (v:=?_) (a':=?_) #[true,true,true,true,true,true,true,true,true,true,true,true,true,true,true,true,true,true,true,true,true,true,false,false,false,false,false,false,false,false,false,false,false,false,false,false] rfl rfl (take_ofW HT_.out HW_.out (by kernel_rfl)) (fun _ _ _ h=>h) (Or.inl ⟨by rfl,?_⟩) hHeld ?_ ?_
                  rotate_left
                  ·rintro w' ⟨s0,s1,s2,s3,s4⟩
                   go_simp
                   with_reducible rfl
                  rotate_left
                  ·simp only [Act.put,xa,xb,xc,i64_w,i32_w]
                   rfl
                  refine pure_ (i:=22) (N:=some 62) (v:=?_) (a':=?_) #[true,true,true,true,true,true,true,true,true,true,true,true,true,true,true,true,true,true,true,true,true,true,true,false,false,false,false,false,false,false,false,false,false,false,false,false] rfl rfl (any_of HT_.out (by kernel_rfl)) (fun _ _ _ h=>h) (Or.inl ⟨by rfl,?_⟩) ?_ ?_
                  rotate_left
                  ·intro w'
                   go_simp
                   with_reducible rfl
                  rotate_left
                  ·simp only [Act.put,xa,xb,xc,i64_w,i32_w]
                   rfl
                  refine pure_ (i:=23) (N:=some 63) (v:=?_) (a':=?_) #[true,true,true,true,true,true,true,true,true,true,true,true,true,true,true,true,true,true,true,true,true,true,true,true,false,false,false,false,false,false,false,false,false,false,false,false] rfl rfl (any_of HT_.out (by kernel_rfl)) (fun _ _ _ h=>h) (Or.inl ⟨by rfl,?_⟩) ?_ ?_
                  rotate_left
                  ·intro w'
                   go_simp
                   with_reducible rfl
                  rotate_left
                  ·simp only [Act.put,xa,xb,xc,i64_w,i32_w]
                   rfl
                  refine pure_ (i:=24) (N:=some 64) (v:=?_) (a':=?_) #[true,true,true,true,true,true,true,true,true,true,true,true,true,true,true,true,true,true,true,true,true,true,true,true,true,false,false,false,false,false,false,false,false,false,false,false] rfl rfl (any_of HT_.out (by kernel_rfl)) (fun _ _ _ h=>h) (Or.inl ⟨by rfl,?_⟩) ?_ ?_
                  rotate_left
                  ·intro w'
                   go_simp
                   with_reducible rfl
                  rotate_left
                  ·simp only [Act.put,xa,xb,xc,i64_w,i32_w]
                   rfl
                  refine pure_ (i:=25) (N:=some 65) (v:=?_) (a':=?_) #[true,true,true,true,true,true,true,true,true,true,true,true,true,true,true,true,true,true,true,true,true,true,true,true,true,true,false,false,false,false,false,false,false,false,false,false] rfl rfl (any_of HT_.out (by kernel_rfl)) (fun _ _ _ h=>h) (Or.inl ⟨by rfl,?_⟩) ?_ ?_
                  rotate_left
                  ·intro w'
                   go_simp
                   with_reducible rfl
                  rotate_left
                  ·simp only [Act.put,xa,xb,xc,i64_w,i32_w]
                   rfl
                  refine pure_ (i:=26) (N:=some 66) (v:=?_) (a':=?_) #[true,true,true,true,true,true,true,true,true,true,true,true,true,true,true,true,true,true,true,true,true,true,true,true,true,true,true,false,false,false,false,false,false,false,false,false] rfl rfl (any_of HT_.out (by kernel_rfl)) (fun _ _ _ h=>h) (Or.inl ⟨by rfl,?_⟩) ?_ ?_
                  rotate_left
                  ·intro w'
                   go_simp
                   with_reducible rfl
                  rotate_left
                  ·simp only [Act.put,xa,xb,xc,i64_w,i32_w]
                   rfl
                  refine pure_ (i:=27) (N:=some 67) (v:=?_) (a':=?_) #[true,true,true,true,true,true,true,true,true,true,true,true,true,true,true,true,true,true,true,true,true,true,true,true,true,true,true,true,false,false,false,false,false,false,false,false] rfl rfl (any_of HT_.out (by kernel_rfl)) (fun _ _ _ h=>h) (Or.inl ⟨by rfl,?_⟩) ?_ ?_
                  rotate_left
                  ·intro w'
                   go_simp
                   with_reducible rfl
                  rotate_left
                  ·simp only [Act.put,xa,xb,xc,i64_w,i32_w]
                   rfl
                  refine pure_ (i:=29) (N:=some 69) (v:=?_) (a':=?_) #[true,true,true,true,true,true,true,true,true,true,true,true,true,true,true,true,true,true,true,true,true,true,true,true,true,true,true,true,false,true,false,false,false,false,false,false] rfl rfl (any_of HT_.out (by kernel_rfl)) (fun _ _ _ h=>h) (Or.inl ⟨by rfl,?_⟩) ?_ ?_
                  rotate_left
                  ·intro w'
                   go_simp
                   with_reducible rfl
                  rotate_left
                  ·simp only [Act.put,xa,xb,xc,i64_w,i32_w]
                   rfl
                  refine take_ (i:=28) (N:=some 68) (v:=?_) (a':=?_) #[true,true,true,true,true,true,true,true,true,true,true,true,true,true,true,true,true,true,true,true,true,true,true,true,true,true,true,true,true,true,false,false,false,false,false,false] rfl rfl (take_ofW HT_.out HW_.out (by kernel_rfl)) (fun _ _ _ h=>h) (Or.inl ⟨by rfl,?_⟩) hHeld ?_ ?_
                  rotate_left
                  ·rintro w' ⟨s0,s1,s2,s3,s4⟩
                   go_simp
                   with_reducible rfl
                  rotate_left
                  ·simp only [Act.put,xa,xb,xc,i64_w,i32_w]
                   rfl
                  refine take_ (i:=30) (N:=some 70) (v:=?_) (a':=?_) #[true,true,true,true,true,true,true,true,true,true,true,true,true,true,true,true,true,true,true,true,true,true,true,true,true,true,true,true,true,true,true,false,false,false,false,false] rfl rfl (take_ofW HT_.out HW_.out (by kernel_rfl)) (fun _ _ _ h=>h) (Or.inl ⟨by rfl,?_⟩) hHeld ?_ ?_
                  rotate_left
                  ·rintro w' ⟨s0,s1,s2,s3,s4⟩
                   go_simp
                   with_reducible rfl
                  rotate_left
                  ·simp only [Act.put,xa,xb,xc,i64_w,i32_w]
                   rfl
                  refine pure_ (i:=31) (N:=some 71) (v:=?_) (a':=?_) #[true,true,true,true,true,true,true,true,true,true,true,true,true,true,true,true,true,true,true,true,true,true,true,true,true,true,true,true,true,true,true,true,false,false,false,false] rfl rfl (any_of HT_.out (by kernel_rfl)) (fun _ _ _ h=>h) (Or.inl ⟨by rfl,?_⟩) ?_ ?_
                  rotate_left
                  ·intro w'
                   go_simp
                   with_reducible rfl
                  rotate_left
                  ·simp only [Act.put,xa,xb,xc,i64_w,i32_w]
                   rfl
                  refine one_ (i:=32) (N:=some 72) #[true,true,true,true,true,true,true,true,true,true,true,true,true,true,true,true,true,true,true,true,true,true,true,true,true,true,true,true,true,true,true,true,true,false,false,false] rfl rfl (one_of HT_.out (by kernel_rfl)) (by decide) (fun K hK=>?_)
                  refine goes_ Try.func98 (by kernel_rfl) rfl #[.slice (some ad216) (l1.take (x16_1 : Int).toNat).length c1,.int .i64 (wrap64 (((rd_T73 l0_1 (rd l1 x16_1)).f1) - a0_0))] (by rfl) rfl rfl (by (try simp only [List.map_toArray,List.map_cons,List.map_nil]);first|done|(rw [show (l1.take (x16_1 : Int).toNat).length = x16_1.toNat from (by rw [List.length_take];have h_ : (x16_1 : Int) ≤ (l1.length : Int):=of_decide_eq_true az;omega)] <;> rfl)|rfl|(simp only [List.length_drop,List.length_take];rfl)) ?_
                  with_reducible refine (spec_l1Has.calls kj8 _ _ (l1.take (x16_1 : Int).toNat) (wrap64 (((rd_T73 l0_1 (rd l1 x16_1)).f1) - a0_0)) true _ ?side1 ?side2 A29.out).mono ?_
                  (case side1=>exact cz (Kd.C_below HR224.out bs))
                  (case side2=>exact HC224.out)
                  rintro e w' ⟨rfl,⟨nd,rfl⟩⟩
                  refine ⟨_,rfl,?_⟩
                  refine hK.out _ _ ⟨(blk_cell BK221.out 0).trans rfl,(blk_cell BK221.out 1).trans rfl,(blk_cell BK215.out 0).trans rfl,(blk_cell BK215.out 1).trans rfl,(blk_cell BK215.out 2).trans rfl⟩ (fun hHeld=>?_)
                  clear hK K
                  refine norm_ (a':=?_) ?_ ?_
                  rotate_left
                  ·show Act.put _ (some 72) _ = _
                   simp only [Act.put,xa,xb,xc,i64_w,i32_w]
                   rfl
                  refine pure_ (i:=33) (N:=some 73) (v:=?_) (a':=?_) #[true,true,true,true,true,true,true,true,true,true,true,true,true,true,true,true,true,true,true,true,true,true,true,true,true,true,true,true,true,true,true,true,true,true,false,false] rfl rfl (any_of HT_.out (by kernel_rfl)) (fun _ _ _ h=>h) (Or.inl ⟨by rfl,?_⟩) ?_ ?_
                  rotate_left
                  ·intro w'
                   go_simp
                   with_reducible rfl
                  rotate_left
                  ·simp only [Act.put,xa,xb,xc,i64_w,i32_w]
                   rfl
                  refine pure_ (i:=34) (N:=some 74) (v:=?_) (a':=?_) #[true,true,true,true,true,true,true,true,true,true,true,true,true,true,true,true,true,true,true,true,true,true,true,true,true,true,true,true,true,true,true,true,true,true,true,false] rfl rfl (any_of HT_.out (by kernel_rfl)) (fun _ _ _ h=>h) (Or.inl ⟨by rfl,?_⟩) ?_ ?_
                  rotate_left
                  ·intro w'
                   go_simp
                   with_reducible rfl
                  rotate_left
                  ·simp only [Act.put,xa,xb,xc,i64_w,i32_w]
                   rfl
                  refine pure_ (i:=35) (N:=some 75) (v:=?_) (a':=?_) #[true,true,true,true,true,true,true,true,true,true,true,true,true,true,true,true,true,true,true,true,true,true,true,true,true,true,true,true,true,true,true,true,true,true,true,true] rfl rfl (any_of HT_.out (by kernel_rfl)) (fun _ _ _ h=>h) (Or.inl ⟨by rfl,?_⟩) ?_ ?_
                  rotate_left
                  ·intro w'
                   go_simp
                   with_reducible rfl
                  rotate_left
                  ·simp only [Act.put,xa,xb,xc,i64_w,i32_w]
                   rfl
                  refine done_ (done_of HT_.out (by kernel_rfl)) ?_
                  try go_wp2
                  go_roundg kj8
                  case measure=>have:=HK1.out;have:=HJ8.out;omega
                  case rel=>exact ⟨(wrap64 (x16_1 + 1)),fz,H',⟨by have:=HK1.out;have:=HJ8.out;omega⟩,⟨by (with_reducible repeat (first|refine blk_drewN ?_ _|refine blk_drew ?_|refine blk_alloc ?_ _));exact BK215.out⟩,⟨by repeat (first|(with_reducible first|exact HB.out|apply below_alloc|apply pw_below_drewN|apply below_drew1|refine below_set ?_ GE215.out|refine below_set ?_ GE221.out)|exact HB.out)⟩⟩
                 ·replace c30:=Bool.eq_false_iff.mpr c30
                  subst c30
                  rw [if_neg (show ¬ (false = true) by decide)] at H
                  obtain rfl:=Option.some.inj H
                  have hcz39_0 : wc.cell? ⟨gb215,0,none⟩ = some (.int .i64 a0_0):=(blk_cell BK215.out 0).trans rfl
                  have hcz39_1 : wc.cell? ⟨gb215,1,none⟩ = some (.slice A0_1 l0_1.length c0_1):=(blk_cell BK215.out 1).trans rfl
                  have hcz39_2 : wc.cell? ⟨gb215,2,none⟩ = some (.slice A0_2 l0_2.length c0_2):=(blk_cell BK215.out 2).trans rfl
                  have hfz39_0:=blk_frozen BK215.out 0
                  have hfz39_1:=blk_frozen BK215.out 1
                  have hfz39_2:=blk_frozen BK215.out 2
                  have p220 : 0 ≤ ((rd l1 x16_1) : Int):=of_decide_eq_true az
                  have q220 : (rd l1 x16_1) < (l0_1.length : Int):=of_decide_eq_true az
                  obtain ⟨ad220,e220,hx220_0,hx220_1⟩:=at_T73 HR0_1.out (rd l1 x16_1) p220 q220
                  cases e220
                  replace hx220_0:=(HB.out.cell (World.block_lt_of_cell? w _ hx220_0)).trans hx220_0
                  replace hx220_1:=(HB.out.cell (World.block_lt_of_cell? w _ hx220_1)).trans hx220_1
                  replace p220:=eq_true p220
                  replace q220:=eq_true q220
                  try go_wp2_with (first|((with_reducible refine gate_dst (N:=7) rfl ?_);refine box_event ?hg (N:=7) ?hd (cs:=#[.int .i64 0,.int .i64 0]) (t:=73) ?hr ?_;(case hd=>rfl);(case hg=>rfl);(case hr=>first|(go_simp;done)|(go_simp;rfl));intro gb221 hg w40 hbox hb;have n0_:=Aside0.mk (kb BK215.out hb);have n1_:=Aside0.mk (below_step bs hb);have n2_:=Aside0.mk (hbox);have n3_:=Aside0.mk ((by rw [hg];exact (below_size bs) : w.heap.size ≤ gb221));have n4_:=Aside0.mk ((by rw [hg];exact (below_size bs) : w.heap.size ≤ gb221));have n5_:=Aside0.mk (kn hg BK215.out);have n6_:=Aside0.mk (km hg BK215.out);clear BK215 HB;have BK215:=n0_;have HB:=n1_;have BK221:=n2_;have GW221:=n3_;have GE221:=n4_;have NB215_221:=n5_;have NB221_215:=n6_;clear n0_ n1_ n2_ n3_ n4_ n5_ n6_;clear hb hbox hg;have hnb41:=NB221_215.out;have hnc41:=NB215_221.out;have hcz42_0 : w40.cell? ⟨gb221,0,none⟩ = some (.int .i64 0):=(blk_cell BK221.out 0).trans rfl;have hcz42_1 : w40.cell? ⟨gb221,1,none⟩ = some (.int .i64 0):=(blk_cell BK221.out 1).trans rfl;have hfz42_0:=blk_frozen BK221.out 0;have hfz42_1:=blk_frozen BK221.out 1))
                  have n0_ : Aside0 (((w40.setCell ⟨gb221,0,none⟩ (.int .i64 ((rd_T73 l0_1 (rd l1 x16_1)).f0))).setCell ⟨gb221,1,none⟩ (.int .i64 ((rd_T73 l0_1 (rd l1 x16_1)).f1))).heap[gb215]? = some (.cells #[.int .i64 a0_0,.slice (some ad220) l0_1.length c0_1,.slice A0_2 l0_2.length c0_2] 29 (0,0))):=⟨by (with_reducible repeat (first|refine blk_drewN ?_ _|refine blk_drew ?_|refine blk_alloc ?_ _));refine blk_far ?_ NB215_221.out _;(with_reducible repeat (first|refine blk_drewN ?_ _|refine blk_drew ?_|refine blk_alloc ?_ _));refine blk_far ?_ NB215_221.out _;(with_reducible repeat (first|refine blk_drewN ?_ _|refine blk_drew ?_|refine blk_alloc ?_ _));exact BK215.out⟩
                  have n1_ : Aside0 (((w40.setCell ⟨gb221,0,none⟩ (.int .i64 ((rd_T73 l0_1 (rd l1 x16_1)).f0))).setCell ⟨gb221,1,none⟩ (.int .i64 ((rd_T73 l0_1 (rd l1 x16_1)).f1))).heap[gb221]? = some (.cells #[.int .i64 ((rd_T73 l0_1 (rd l1 x16_1)).f0),.int .i64 ((rd_T73 l0_1 (rd l1 x16_1)).f1)] 73 (0,0))):=⟨by (with_reducible repeat (first|refine blk_drewN ?_ _|refine blk_drew ?_|refine blk_alloc ?_ _));refine blk_put (cs:=#[.int .i64 ((rd_T73 l0_1 (rd l1 x16_1)).f0),.int .i64 0]) ?_ 1 _ rfl;(with_reducible repeat (first|refine blk_drewN ?_ _|refine blk_drew ?_|refine blk_alloc ?_ _));refine blk_put (cs:=#[.int .i64 0,.int .i64 0]) ?_ 0 _ rfl;(with_reducible repeat (first|refine blk_drewN ?_ _|refine blk_drew ?_|refine blk_alloc ?_ _));exact BK221.out⟩
                  have n2_ : Aside0 (Below w.heap.size w ((w40.setCell ⟨gb221,0,none⟩ (.int .i64 ((rd_T73 l0_1 (rd l1 x16_1)).f0))).setCell ⟨gb221,1,none⟩ (.int .i64 ((rd_T73 l0_1 (rd l1 x16_1)).f1)))):=⟨by repeat (first|(with_reducible first|exact HB.out|apply below_alloc|apply pw_below_drewN|apply below_drew1|refine below_set ?_ GE215.out|refine below_set ?_ GE221.out)|exact HB.out)⟩
                  (try clear BK215)
                  (try clear BK221)
                  (try clear HB)
                  generalize ((w40.setCell ⟨gb221,0,none⟩ (.int .i64 ((rd_T73 l0_1 (rd l1 x16_1)).f0))).setCell ⟨gb221,1,none⟩ (.int .i64 ((rd_T73 l0_1 (rd l1 x16_1)).f1))) = w43 at n0_ n1_ n2_ ⊢
                  have BK215:=n0_
                  have BK221:=n1_
                  have HB:=n2_
                  clear n0_ n1_ n2_
                  have n0_:=Aside0.mk (blk_drew BK215.out)
                  have n1_:=Aside0.mk (blk_drew BK221.out)
                  have n2_:=Aside0.mk (below_drew1 HB.out)
                  clear BK215
                  clear BK221
                  clear HB
                  have BK215:=n0_
                  have BK221:=n1_
                  have HB:=n2_
                  clear n0_ n1_ n2_
                  obtain ⟨i045,hi045,_,hsz45,_⟩:=info_parts info3
                  obtain ⟨hcut45,hA45,hC45⟩:=print_take_of (P:=Try.prog) (Value.int .i64) 0 23 3 .i64 Try.underlying23 hi045 hsz45 (some ad216) c1 l1 x16_1 (of_decide_eq_true az) (of_decide_eq_true az) HC1.out
                  have HR222:=Aside0.mk (Kd.C_of_reads (h1:=fun _=>rfl) (hA45 _ (Kd.reads_of_C HR1.out)))
                  have HC222:=Aside0.mk hC45
                  clear hA45 hC45 hi045 hsz45
                  refine start_ (n:=36) (S:=fun w'=>w'.cell? ⟨gb221,0,none⟩ = some (.int .i64 ((rd_T73 l0_1 (rd l1 x16_1)).f0)) ∧ w'.cell? ⟨gb221,1,none⟩ = some (.int .i64 ((rd_T73 l0_1 (rd l1 x16_1)).f1)) ∧ w'.cell? ⟨gb215,0,none⟩ = some (.int .i64 a0_0) ∧ w'.cell? ⟨gb215,1,none⟩ = some (.slice (some ad220) l0_1.length c0_1) ∧ w'.cell? ⟨gb215,2,none⟩ = some (.slice A0_2 l0_2.length c0_2)) (ds:=[]) #[false,false,false,false,false,false,false,false,false,false,false,false,false,false,false,false,false,false,false,false,false,false,false,false,false,false,false,false,false,false,false,false,false,false,false,false] (by kernel_rfl) rfl rfl ⟨(blk_cell BK221.out 0).trans rfl,(blk_cell BK221.out 1).trans rfl,(blk_cell BK215.out 0).trans rfl,(blk_cell BK215.out 1).trans rfl,(blk_cell BK215.out 2).trans rfl⟩ (fun hHeld=>?_);refine with_tabW spec_plOrder.tab9 spec_plOrder.bits9 (fun HT_ HW_=>?_)
                  generalize w43.drew = w44 at BK215 BK221 HB HR222 hHeld ⊢
                  refine pure_ (i:=0) (N:=some 40) (v:=?_) (a':=?_) #[true,false,false,false,false,false,false,false,false,false,false,false,false,false,false,false,false,false,false,false,false,false,false,false,false,false,false,false,false,false,false,false,false,false,false,false] rfl rfl (any_of HT_.out (by kernel_rfl)) (fun _ _ _ h=>h) (Or.inl ⟨by rfl,?_⟩) ?_ ?_
                  rotate_left
                  ·intro w'
                   go_simp
                   with_reducible rfl
                  rotate_left
                  ·simp only [Act.put,xa,xb,xc,i64_w,i32_w]
                   rfl
                  refine pure_ (i:=2) (N:=some 42) (v:=?_) (a':=?_) #[true,false,true,false,false,false,false,false,false,false,false,false,false,false,false,false,false,false,false,false,false,false,false,false,false,false,false,false,false,false,false,false,false,false,false,false] rfl rfl (any_of HT_.out (by kernel_rfl)) (fun _ _ _ h=>h) (Or.inl ⟨by rfl,?_⟩) ?_ ?_
                  rotate_left
                  ·intro w'
                   go_simp
                   with_reducible rfl
                  rotate_left
                  ·simp only [Act.put,xa,xb,xc,i64_w,i32_w]
                   rfl
                  refine take_ (i:=1) (N:=some 41) (v:=?_) (a':=?_) #[true,true,true,false,false,false,false,false,false,false,false,false,false,false,false,false,false,false,false,false,false,false,false,false,false,false,false,false,false,false,false,false,false,false,false,false] rfl rfl (take_ofW HT_.out HW_.out (by kernel_rfl)) (fun _ _ _ h=>h) (Or.inl ⟨by rfl,?_⟩) hHeld ?_ ?_
                  rotate_left
                  ·rintro w' ⟨s0,s1,s2,s3,s4⟩
                   go_simp
                   with_reducible rfl
                  rotate_left
                  ·simp only [Act.put,xa,xb,xc,i64_w,i32_w]
                   rfl
                  refine take_ (i:=3) (N:=some 43) (v:=?_) (a':=?_) #[true,true,true,true,false,false,false,false,false,false,false,false,false,false,false,false,false,false,false,false,false,false,false,false,false,false,false,false,false,false,false,false,false,false,false,false] rfl rfl (take_ofW HT_.out HW_.out (by kernel_rfl)) (fun _ _ _ h=>h) (Or.inl ⟨by rfl,?_⟩) hHeld ?_ ?_
                  rotate_left
                  ·rintro w' ⟨s0,s1,s2,s3,s4⟩
                   go_simp
                   with_reducible rfl
                  rotate_left
                  ·simp only [Act.put,xa,xb,xc,i64_w,i32_w]
                   rfl
                  refine pure_ (i:=4) (N:=some 44) (v:=?_) (a':=?_) #[true,true,true,true,true,false,false,false,false,false,false,false,false,false,false,false,false,false,false,false,false,false,false,false,false,false,false,false,false,false,false,false,false,false,false,false] rfl rfl (any_of HT_.out (by kernel_rfl)) (fun _ _ _ h=>h) (Or.inl ⟨by rfl,?_⟩) ?_ ?_
                  rotate_left
                  ·intro w'
                   go_simp
                   with_reducible rfl
                  rotate_left
                  ·simp only [Act.put,xa,xb,xc,i64_w,i32_w]
                   rfl
                  refine pure_ (i:=5) (N:=some 45) (v:=?_) (a':=?_) #[true,true,true,true,true,true,false,false,false,false,false,false,false,false,false,false,false,false,false,false,false,false,false,false,false,false,false,false,false,false,false,false,false,false,false,false] rfl rfl (any_of HT_.out (by kernel_rfl)) (fun _ _ _ h=>h) (Or.inl ⟨by rfl,?_⟩) ?_ ?_
                  rotate_left
                  ·intro w'
                   go_simp
                   with_reducible rfl
                  rotate_left
                  ·simp only [Act.put,xa,xb,xc,i64_w,i32_w]
                   rfl
                  refine pure_ (i:=6) (N:=some 46) (v:=?_) (a':=?_) #[true,true,true,true,true,true,true,false,false,false,false,false,false,false,false,false,false,false,false,false,false,false,false,false,false,false,false,false,false,false,false,false,false,false,false,false] rfl rfl (any_of HT_.out (by kernel_rfl)) (fun _ _ _ h=>h) (Or.inl ⟨by rfl,?_⟩) ?_ ?_
                  rotate_left
                  ·intro w'
                   go_simp
                   with_reducible rfl
                  rotate_left
                  ·simp only [Act.put,xa,xb,xc,i64_w,i32_w]
                   rfl
                  refine pure_ (i:=7) (N:=some 47) (v:=?_) (a':=?_) #[true,true,true,true,true,true,true,true,false,false,false,false,false,false,false,false,false,false,false,false,false,false,false,false,false,false,false,false,false,false,false,false,false,false,false,false] rfl rfl (any_of HT_.out (by kernel_rfl)) (fun _ _ _ h=>h) (Or.inl ⟨by rfl,?_⟩) ?_ ?_
                  rotate_left
                  ·intro w'
                   go_simp
                   with_reducible rfl
                  rotate_left
                  ·simp only [Act.put,xa,xb,xc,i64_w,i32_w]
                   rfl
                  refine pure_ (i:=8) (N:=some 48) (v:=?_) (a':=?_) #[true,true,true,true,true,true,true,true,true,false,false,false,false,false,false,false,false,false,false,false,false,false,false,false,false,false,false,false,false,false,false,false,false,false,false,false] rfl rfl (any_of HT_.out (by kernel_rfl)) (fun _ _ _ h=>h) (Or.inl ⟨by rfl,?_⟩) ?_ ?_
                  rotate_left
                  ·intro w'
                   go_simp
                   with_reducible rfl
                  rotate_left
                  ·simp only [Act.put,xa,xb,xc,i64_w,i32_w]
                   rfl
                  refine pure_ (i:=9) (N:=some 49) (v:=?_) (a':=?_) #[true,true,true,true,true,true,true,true,true,true,false,false,false,false,false,false,false,false,false,false,false,false,false,false,false,false,false,false,false,false,false,false,false,false,false,false] rfl rfl (any_of HT_.out (by kernel_rfl)) (fun _ _ _ h=>h) (Or.inl ⟨by rfl,?_⟩) ?_ ?_
                  rotate_left
                  ·intro w'
                   go_simp
                   with_reducible rfl
                  rotate_left
                  ·simp only [Act.put,xa,xb,xc,i64_w,i32_w]
                   rfl
                  refine pure_ (i:=11) (N:=some 51) (v:=?_) (a':=?_) #[true,true,true,true,true,true,true,true,true,true,false,true,false,false,false,false,false,false,false,false,false,false,false,false,false,false,false,false,false,false,false,false,false,false,false,false] rfl rfl (any_of HT_.out (by kernel_rfl)) (fun _ _ _ h=>h) (Or.inl ⟨by rfl,?_⟩) ?_ ?_
                  rotate_left
                  ·intro w'
                   go_simp
                   with_reducible rfl
                  rotate_left
                  ·simp only [Act.put,xa,xb,xc,i64_w,i32_w]
                   rfl
                  refine take_ (i:=10) (N:=some 50) (v:=?_) (a':=?_) #[true,true,true,true,true,true,true,true,true,true,true,true,false,false,false,false,false,false,false,false,false,false,false,false,false,false,false,false,false,false,false,false,false,false,false,false] rfl rfl (take_ofW HT_.out HW_.out (by kernel_rfl)) (fun _ _ _ h=>h) (Or.inl ⟨by rfl,?_⟩) hHeld ?_ ?_
                  rotate_left
                  ·rintro w' ⟨s0,s1,s2,s3,s4⟩
                   go_simp
                   with_reducible rfl
                  rotate_left
                  ·simp only [Act.put,xa,xb,xc,i64_w,i32_w]
                   rfl
                  refine take_ (i:=12) (N:=some 52) (v:=?_) (a':=?_) #[true,true,true,true,true,true,true,true,true,true,true,true,true,false,false,false,false,false,false,false,false,false,false,false,false,false,false,false,false,false,false,false,false,false,false,false] rfl rfl (take_ofW HT_.out HW_.out (by kernel_rfl)) (fun _ _ _ h=>h) (Or.inl ⟨by rfl,?_⟩) hHeld ?_ ?_
                  rotate_left
                  ·rintro w' ⟨s0,s1,s2,s3,s4⟩
                   go_simp
                   with_reducible rfl
                  rotate_left
                  ·simp only [Act.put,xa,xb,xc,i64_w,i32_w]
                   rfl
                  refine pure_ (i:=13) (N:=some 53) (v:=?_) (a':=?_) #[true,true,true,true,true,true,true,true,true,true,true,true,true,true,false,false,false,false,false,false,false,false,false,false,false,false,false,false,false,false,false,false,false,false,false,false] rfl rfl (any_of HT_.out (by kernel_rfl)) (fun _ _ _ h=>h) (Or.inl ⟨by rfl,?_⟩) ?_ ?_
                  rotate_left
                  ·intro w'
                   go_simp
                   with_reducible rfl
                  rotate_left
                  ·simp only [Act.put,xa,xb,xc,i64_w,i32_w]
                   rfl
                  refine one_ (i:=14) (N:=some 54) #[true,true,true,true,true,true,true,true,true,true,true,true,true,true,true,false,false,false,false,false,false,false,false,false,false,false,false,false,false,false,false,false,false,false,false,false] rfl rfl (one_of HT_.out (by kernel_rfl)) (by decide) (fun K hK=>?_)
                  refine goes_ Try.func98 (by kernel_rfl) rfl #[.slice (some ad216) (l1.take (x16_1 : Int).toNat).length c1,.int .i64 (wrap64 (((rd_T73 l0_1 (rd l1 x16_1)).f0) - a0_0))] (by rfl) rfl rfl (by (try simp only [List.map_toArray,List.map_cons,List.map_nil]);first|done|(rw [show (l1.take (x16_1 : Int).toNat).length = x16_1.toNat from (by rw [List.length_take];have h_ : (x16_1 : Int) ≤ (l1.length : Int):=of_decide_eq_true az;omega)] <;> rfl)|rfl|(simp only [List.length_drop,List.length_take];rfl)) ?_
                  with_reducible refine (spec_l1Has.calls kj8 _ _ (l1.take (x16_1 : Int).toNat) (wrap64 (((rd_T73 l0_1 (rd l1 x16_1)).f0) - a0_0)) true _ ?side1 ?side2 A24.out).mono ?_
                  (case side1=>exact cz (Kd.C_below HR222.out HB.out))
                  (case side2=>exact HC222.out)
                  rintro e w' ⟨rfl,⟨nd,rfl⟩⟩
                  refine ⟨_,rfl,?_⟩
                  obtain ⟨i046,hi046,_,hsz46,_⟩:=info_parts info3
                  obtain ⟨hcut46,hA46,hC46⟩:=print_take_of (P:=Try.prog) (Value.int .i64) 0 23 3 .i64 Try.underlying23 hi046 hsz46 (some ad216) c1 l1 x16_1 (of_decide_eq_true az) (of_decide_eq_true az) HC1.out
                  have HR224:=Aside0.mk (Kd.C_of_reads (h1:=fun _=>rfl) (hA46 _ (Kd.reads_of_C HR1.out)))
                  have HC224:=Aside0.mk hC46
                  clear hA46 hC46 hi046 hsz46
                  refine hK.out _ _ ⟨(blk_cell BK221.out 0).trans rfl,(blk_cell BK221.out 1).trans rfl,(blk_cell BK215.out 0).trans rfl,(blk_cell BK215.out 1).trans rfl,(blk_cell BK215.out 2).trans rfl⟩ (fun hHeld=>?_)
                  clear hK K
                  refine norm_ (a':=?_) ?_ ?_
                  rotate_left
                  ·show Act.put _ (some 54) _ = _
                   simp only [Act.put,xa,xb,xc,i64_w,i32_w]
                   rfl
                  refine pure_ (i:=15) (N:=some 55) (v:=?_) (a':=?_) #[true,true,true,true,true,true,true,true,true,true,true,true,true,true,true,true,false,false,false,false,false,false,false,false,false,false,false,false,false,false,false,false,false,false,false,false] rfl rfl (any_of HT_.out (by kernel_rfl)) (fun _ _ _ h=>h) (Or.inl ⟨by rfl,?_⟩) ?_ ?_
                  rotate_left
                  ·intro w'
                   go_simp
                   with_reducible rfl
                  rotate_left
                  ·simp only [Act.put,xa,xb,xc,i64_w,i32_w]
                   rfl
                  refine pure_ (i:=16) (N:=some 56) (v:=?_) (a':=?_) #[true,true,true,true,true,true,true,true,true,true,true,true,true,true,true,true,true,false,false,false,false,false,false,false,false,false,false,false,false,false,false,false,false,false,false,false] rfl rfl (any_of HT_.out (by kernel_rfl)) (fun _ _ _ h=>h) (Or.inl ⟨by rfl,?_⟩) ?_ ?_
                  rotate_left
                  ·intro w'
                   go_simp
                   with_reducible rfl
                  rotate_left
                  ·simp only [Act.put,xa,xb,xc,i64_w,i32_w]
                   rfl
                  refine pure_ (i:=17) (N:=some 57) (v:=?_) (a':=?_) #[true,true,true,true,true,true,true,true,true,true,true,true,true,true,true,true,true,true,false,false,false,false,false,false,false,false,false,false,false,false,false,false,false,false,false,false] rfl rfl (any_of HT_.out (by kernel_rfl)) (fun _ _ _ h=>h) (Or.inl ⟨by rfl,?_⟩) ?_ ?_
                  rotate_left
                  ·intro w'
                   go_simp
                   with_reducible rfl
                  rotate_left
                  ·simp only [Act.put,xa,xb,xc,i64_w,i32_w]
                   rfl
                  refine pure_ (i:=18) (N:=some 58) (v:=?_) (a':=?_) #[true,true,true,true,true,true,true,true,true,true,true,true,true,true,true,true,true,true,true,false,false,false,false,false,false,false,false,false,false,false,false,false,false,false,false,false] rfl rfl (any_of HT_.out (by kernel_rfl)) (fun _ _ _ h=>h) (Or.inl ⟨by rfl,?_⟩) ?_ ?_
                  rotate_left
                  ·intro w'
                   go_simp
                   with_reducible rfl
                  rotate_left
                  ·simp only [Act.put,xa,xb,xc,i64_w,i32_w]
                   rfl
                  refine pure_ (i:=20) (N:=some 60) (v:=?_) (a':=?_) #[true,true,true,true,true,true,true,true,true,true,true,true,true,true,true,true,true,true,true,false,true,false,false,false,false,false,false,false,false,false,false,false,false,false,false,false] rfl rfl (any_of HT_.out (by kernel_rfl)) (fun _ _ _ h=>h) (Or.inl ⟨by rfl,?_⟩) ?_ ?_
                  rotate_left
                  ·intro w'
                   go_simp
                   with_reducible rfl
                  rotate_left
                  ·simp only [Act.put,xa,xb,xc,i64_w,i32_w]
                   rfl
                  refine take_ (i:=19) (N:=some 59) (v:=?_) (a':=?_) #[true,true,true,true,true,true,true,true,true,true,true,true,true,true,true,true,true,true,true,true,true,false,false,false,false,false,false,false,false,false,false,false,false,false,false,false] rfl rfl (take_ofW HT_.out HW_.out (by kernel_rfl)) (fun _ _ _ h=>h) (Or.inl ⟨by rfl,?_⟩) hHeld ?_ ?_
                  rotate_left
                  ·rintro w' ⟨s0,s1,s2,s3,s4⟩
                   go_simp
                   with_reducible rfl
                  rotate_left
                  ·simp only [Act.put,xa,xb,xc,i64_w,i32_w]
                   rfl
                  refine take_ (i:=21) (N:=some 61) (v:=?_) (a':=?_) #[true,true,true,true,true,true,true,true,true,true,true,true,true,true,true,true,true,true,true,true,true,true,false,false,false,false,false,false,false,false,false,false,false,false,false,false] rfl rfl (take_ofW HT_.out HW_.out (by kernel_rfl)) (fun _ _ _ h=>h) (Or.inl ⟨by rfl,?_⟩) hHeld ?_ ?_
                  rotate_left
                  ·rintro w' ⟨s0,s1,s2,s3,s4⟩
                   go_simp
                   with_reducible rfl
                  rotate_left
                  ·simp only [Act.put,xa,xb,xc,i64_w,i32_w]
                   rfl
                  refine pure_ (i:=22) (N:=some 62) (v:=?_) (a':=?_) #[true,true,true,true,true,true,true,true,true,true,true,true,true,true,true,true,true,true,true,true,true,true,true,false,false,false,false,false,false,false,false,false,false,false,false,false] rfl rfl (any_of HT_.out (by kernel_rfl)) (fun _ _ _ h=>h) (Or.inl ⟨by rfl,?_⟩) ?_ ?_
                  rotate_left
                  ·intro w'
                   go_simp
                   with_reducible rfl
                  rotate_left
                  ·simp only [Act.put,xa,xb,xc,i64_w,i32_w]
                   rfl
                  refine pure_ (i:=23) (N:=some 63) (v:=?_) (a':=?_) #[true,true,true,true,true,true,true,true,true,true,true,true,true,true,true,true,true,true,true,true,true,true,true,true,false,false,false,false,false,false,false,false,false,false,false,false] rfl rfl (any_of HT_.out (by kernel_rfl)) (fun _ _ _ h=>h) (Or.inl ⟨by rfl,?_⟩) ?_ ?_
                  rotate_left
                  ·intro w'
                   go_simp
                   with_reducible rfl
                  rotate_left
                  ·simp only [Act.put,xa,xb,xc,i64_w,i32_w]
                   rfl
                  refine pure_ (i:=24) (N:=some 64) (v:=?_) (a':=?_) #[true,true,true,true,true,true,true,true,true,true,true,true,true,true,true,true,true,true,true,true,true,true,true,true,true,false,false,false,false,false,false,false,false,false,false,false] rfl rfl (any_of HT_.out (by kernel_rfl)) (fun _ _ _ h=>h) (Or.inl ⟨by rfl,?_⟩) ?_ ?_
                  rotate_left
                  ·intro w'
                   go_simp
                   with_reducible rfl
                  rotate_left
                  ·simp only [Act.put,xa,xb,xc,i64_w,i32_w]
                   rfl
                  refine pure_ (i:=25) (N:=some 65) (v:=?_) (a':=?_) #[true,true,true,true,true,true,true,true,true,true,true,true,true,true,true,true,true,true,true,true,true,true,true,true,true,true,false,false,false,false,false,false,false,false,false,false] rfl rfl (any_of HT_.out (by kernel_rfl)) (fun _ _ _ h=>h) (Or.inl ⟨by rfl,?_⟩) ?_ ?_
                  rotate_left
                  ·intro w'
                   go_simp
                   with_reducible rfl
                  rotate_left
                  ·simp only [Act.put,xa,xb,xc,i64_w,i32_w]
                   rfl
                  refine pure_ (i:=26) (N:=some 66) (v:=?_) (a':=?_) #[true,true,true,true,true,true,true,true,true,true,true,true,true,true,true,true,true,true,true,true,true,true,true,true,true,true,true,false,false,false,false,false,false,false,false,false] rfl rfl (any_of HT_.out (by kernel_rfl)) (fun _ _ _ h=>h) (Or.inl ⟨by rfl,?_⟩) ?_ ?_
                  rotate_left
                  ·intro w'
                   go_simp
                   with_reducible rfl
                  rotate_left
                  ·simp only [Act.put,xa,xb,xc,i64_w,i32_w]
                   rfl
                  refine pure_ (i:=27) (N:=some 67) (v:=?_) (a':=?_) #[true,true,true,true,true,true,true,true,true,true,true,true,true,true,true,true,true,true,true,true,true,true,true,true,true,true,true,true,false,false,false,false,false,false,false,false] rfl rfl (any_of HT_.out (by kernel_rfl)) (fun _ _ _ h=>h) (Or.inl ⟨by rfl,?_⟩) ?_ ?_
                  rotate_left
                  ·intro w'
                   go_simp
                   with_reducible rfl
                  rotate_left
                  ·simp only [Act.put,xa,xb,xc,i64_w,i32_w]
                   rfl
                  refine pure_ (i:=29) (N:=some 69) (v:=?_) (a':=?_) #[true,true,true,true,true,true,true,true,true,true,true,true,true,true,true,true,true,true,true,true,true,true,true,true,true,true,true,true,false,true,false,false,false,false,false,false] rfl rfl (any_of HT_.out (by kernel_rfl)) (fun _ _ _ h=>h) (Or.inl ⟨by rfl,?_⟩) ?_ ?_
                  rotate_left
                  ·intro w'
                   go_simp
                   with_reducible rfl
                  rotate_left
                  ·simp only [Act.put,xa,xb,xc,i64_w,i32_w]
                   rfl
                  refine take_ (i:=28) (N:=some 68) (v:=?_) (a':=?_) #[true,true,true,true,true,true,true,true,true,true,true,true,true,true,true,true,true,true,true,true,true,true,true,true,true,true,true,true,true,true,false,false,false,false,false,false] rfl rfl (take_ofW HT_.out HW_.out (by kernel_rfl)) (fun _ _ _ h=>h) (Or.inl ⟨by rfl,?_⟩) hHeld ?_ ?_
                  rotate_left
                  ·rintro w' ⟨s0,s1,s2,s3,s4⟩
                   go_simp
                   with_reducible rfl
                  rotate_left
                  ·simp only [Act.put,xa,xb,xc,i64_w,i32_w]
                   rfl
                  refine take_ (i:=30) (N:=some 70) (v:=?_) (a':=?_) #[true,true,true,true,true,true,true,true,true,true,true,true,true,true,true,true,true,true,true,true,true,true,true,true,true,true,true,true,true,true,true,false,false,false,false,false] rfl rfl (take_ofW HT_.out HW_.out (by kernel_rfl)) (fun _ _ _ h=>h) (Or.inl ⟨by rfl,?_⟩) hHeld ?_ ?_
                  rotate_left
                  ·rintro w' ⟨s0,s1,s2,s3,s4⟩
                   go_simp
                   with_reducible rfl
                  rotate_left
                  ·simp only [Act.put,xa,xb,xc,i64_w,i32_w]
                   rfl
                  refine pure_ (i:=31) (N:=some 71) (v:=?_) (a':=?_) #[true,true,true,true,true,true,true,true,true,true,true,true,true,true,true,true,true,true,true,true,true,true,true,true,true,true,true,true,true,true,true,true,false,false,false,false] rfl rfl (any_of HT_.out (by kernel_rfl)) (fun _ _ _ h=>h) (Or.inl ⟨by rfl,?_⟩) ?_ ?_
                  rotate_left
                  ·intro w'
                   go_simp
                   with_reducible rfl
                  rotate_left
                  ·simp only [Act.put,xa,xb,xc,i64_w,i32_w]
                   rfl
                  refine one_ (i:=32) (N:=some 72) #[true,true,true,true,true,true,true,true,true,true,true,true,true,true,true,true,true,true,true,true,true,true,true,true,true,true,true,true,true,true,true,true,true,false,false,false] rfl rfl (one_of HT_.out (by kernel_rfl)) (by decide) (fun K hK=>?_)
                  refine goes_ Try.func98 (by kernel_rfl) rfl #[.slice (some ad216) (l1.take (x16_1 : Int).toNat).length c1,.int .i64 (wrap64 (((rd_T73 l0_1 (rd l1 x16_1)).f1) - a0_0))] (by rfl) rfl rfl (by (try simp only [List.map_toArray,List.map_cons,List.map_nil]);first|done|(rw [show (l1.take (x16_1 : Int).toNat).length = x16_1.toNat from (by rw [List.length_take];have h_ : (x16_1 : Int) ≤ (l1.length : Int):=of_decide_eq_true az;omega)] <;> rfl)|rfl|(simp only [List.length_drop,List.length_take];rfl)) ?_
                  with_reducible refine (spec_l1Has.calls kj8 _ _ (l1.take (x16_1 : Int).toNat) (wrap64 (((rd_T73 l0_1 (rd l1 x16_1)).f1) - a0_0)) false _ ?side1 ?side2 A29.out).mono ?_
                  (case side1=>exact cz (Kd.C_below HR224.out bs))
                  (case side2=>exact HC224.out)
                  rintro e w' ⟨rfl,⟨nd,rfl⟩⟩
                  refine ⟨_,rfl,?_⟩
                  refine hK.out _ _ ⟨(blk_cell BK221.out 0).trans rfl,(blk_cell BK221.out 1).trans rfl,(blk_cell BK215.out 0).trans rfl,(blk_cell BK215.out 1).trans rfl,(blk_cell BK215.out 2).trans rfl⟩ (fun hHeld=>?_)
                  clear hK K
                  refine norm_ (a':=?_) ?_ ?_
                  rotate_left
                  ·show Act.put _ (some 72) _ = _
                   simp only [Act.put,xa,xb,xc,i64_w,i32_w]
                   rfl
                  refine pure_ (i:=33) (N:=some 73) (v:=?_) (a':=?_) #[true,true,true,true,true,true,true,true,true,true,true,true,true,true,true,true,true,true,true,true,true,true,true,true,true,true,true,true,true,true,true,true,true,true,false,false] rfl rfl (any_of HT_.out (by kernel_rfl)) (fun _ _ _ h=>h) (Or.inl ⟨by rfl,?_⟩) ?_ ?_
                  rotate_left
                  ·intro w'
                   go_simp
                   with_reducible rfl
                  rotate_left
                  ·simp only [Act.put,xa,xb,xc,i64_w,i32_w]
                   rfl
                  refine pure_ (i:=34) (N:=some 74) (v:=?_) (a':=?_) #[true,true,true,true,true,true,true,true,true,true,true,true,true,true,true,true,true,true,true,true,true,true,true,true,true,true,true,true,true,true,true,true,true,true,true,false] rfl rfl (any_of HT_.out (by kernel_rfl)) (fun _ _ _ h=>h) (Or.inl ⟨by rfl,?_⟩) ?_ ?_
                  rotate_left
                  ·intro w'
                   go_simp
                   with_reducible rfl
                  rotate_left
                  ·simp only [Act.put,xa,xb,xc,i64_w,i32_w]
                   rfl
                  refine pure_ (i:=35) (N:=some 75) (v:=?_) (a':=?_) #[true,true,true,true,true,true,true,true,true,true,true,true,true,true,true,true,true,true,true,true,true,true,true,true,true,true,true,true,true,true,true,true,true,true,true,true] rfl rfl (any_of HT_.out (by kernel_rfl)) (fun _ _ _ h=>h) (Or.inl ⟨by rfl,?_⟩) ?_ ?_
                  rotate_left
                  ·intro w'
                   go_simp
                   with_reducible rfl
                  rotate_left
                  ·simp only [Act.put,xa,xb,xc,i64_w,i32_w]
                   rfl
                  refine done_ (done_of HT_.out (by kernel_rfl)) ?_
                  try go_wp2
                  go_ret
                  exact ⟨by first|rfl|(simp [errW_none,errW_some] <;> rfl)|(simp [*,errW_none,errW_some] <;> rfl),by repeat (first|(with_reducible first|exact HB.out|apply below_alloc|apply pw_below_drewN|apply below_drew1|refine below_set ?_ GE215.out|refine below_set ?_ GE221.out)|exact HB.out)⟩
                ·rw [if_neg c26] at H
                 have c26b0 : decide (a0_0 ≤ ((rd_T73 l0_1 (rd l1 x16_1)).f1)) = false:=decide_eq_false c26
                 clear c26
                 have H':=Aside0.mk H
                 clear H
                 have hcz47_0 : wc.cell? ⟨gb215,0,none⟩ = some (.int .i64 a0_0):=(blk_cell BK215.out 0).trans rfl
                 have hcz47_1 : wc.cell? ⟨gb215,1,none⟩ = some (.slice A0_1 l0_1.length c0_1):=(blk_cell BK215.out 1).trans rfl
                 have hcz47_2 : wc.cell? ⟨gb215,2,none⟩ = some (.slice A0_2 l0_2.length c0_2):=(blk_cell BK215.out 2).trans rfl
                 have hfz47_0:=blk_frozen BK215.out 0
                 have hfz47_1:=blk_frozen BK215.out 1
                 have hfz47_2:=blk_frozen BK215.out 2
                 have p220 : 0 ≤ ((rd l1 x16_1) : Int):=of_decide_eq_true az
                 have q220 : (rd l1 x16_1) < (l0_1.length : Int):=of_decide_eq_true az
                 obtain ⟨ad220,e220,hx220_0,hx220_1⟩:=at_T73 HR0_1.out (rd l1 x16_1) p220 q220
                 cases e220
                 replace hx220_0:=(HB.out.cell (World.block_lt_of_cell? w _ hx220_0)).trans hx220_0
                 replace hx220_1:=(HB.out.cell (World.block_lt_of_cell? w _ hx220_1)).trans hx220_1
                 replace p220:=eq_true p220
                 replace q220:=eq_true q220
                 try go_wp2_with (first|((with_reducible refine gate_dst (N:=7) rfl ?_);refine box_event ?hg (N:=7) ?hd (cs:=#[.int .i64 0,.int .i64 0]) (t:=73) ?hr ?_;(case hd=>rfl);(case hg=>rfl);(case hr=>first|(go_simp;done)|(go_simp;rfl));intro gb221 hg w48 hbox hb;have n0_:=Aside0.mk (kb BK215.out hb);have n1_:=Aside0.mk (below_step bs hb);have n2_:=Aside0.mk (hbox);have n3_:=Aside0.mk ((by rw [hg];exact (below_size bs) : w.heap.size ≤ gb221));have n4_:=Aside0.mk ((by rw [hg];exact (below_size bs) : w.heap.size ≤ gb221));have n5_:=Aside0.mk (kn hg BK215.out);have n6_:=Aside0.mk (km hg BK215.out);clear BK215 HB;have BK215:=n0_;have HB:=n1_;have BK221:=n2_;have GW221:=n3_;have GE221:=n4_;have NB215_221:=n5_;have NB221_215:=n6_;clear n0_ n1_ n2_ n3_ n4_ n5_ n6_;clear hb hbox hg;have hnb49:=NB221_215.out;have hnc49:=NB215_221.out;have hcz50_0 : w48.cell? ⟨gb221,0,none⟩ = some (.int .i64 0):=(blk_cell BK221.out 0).trans rfl;have hcz50_1 : w48.cell? ⟨gb221,1,none⟩ = some (.int .i64 0):=(blk_cell BK221.out 1).trans rfl;have hfz50_0:=blk_frozen BK221.out 0;have hfz50_1:=blk_frozen BK221.out 1))
                 have n0_ : Aside0 (((w48.setCell ⟨gb221,0,none⟩ (.int .i64 ((rd_T73 l0_1 (rd l1 x16_1)).f0))).setCell ⟨gb221,1,none⟩ (.int .i64 ((rd_T73 l0_1 (rd l1 x16_1)).f1))).heap[gb215]? = some (.cells #[.int .i64 a0_0,.slice (some ad220) l0_1.length c0_1,.slice A0_2 l0_2.length c0_2] 29 (0,0))):=⟨by (with_reducible repeat (first|refine blk_drewN ?_ _|refine blk_drew ?_|refine blk_alloc ?_ _));refine blk_far ?_ NB215_221.out _;(with_reducible repeat (first|refine blk_drewN ?_ _|refine blk_drew ?_|refine blk_alloc ?_ _));refine blk_far ?_ NB215_221.out _;(with_reducible repeat (first|refine blk_drewN ?_ _|refine blk_drew ?_|refine blk_alloc ?_ _));exact BK215.out⟩
                 have n1_ : Aside0 (((w48.setCell ⟨gb221,0,none⟩ (.int .i64 ((rd_T73 l0_1 (rd l1 x16_1)).f0))).setCell ⟨gb221,1,none⟩ (.int .i64 ((rd_T73 l0_1 (rd l1 x16_1)).f1))).heap[gb221]? = some (.cells #[.int .i64 ((rd_T73 l0_1 (rd l1 x16_1)).f0),.int .i64 ((rd_T73 l0_1 (rd l1 x16_1)).f1)] 73 (0,0))):=⟨by (with_reducible repeat (first|refine blk_drewN ?_ _|refine blk_drew ?_|refine blk_alloc ?_ _));refine blk_put (cs:=#[.int .i64 ((rd_T73 l0_1 (rd l1 x16_1)).f0),.int .i64 0]) ?_ 1 _ rfl;(with_reducible repeat (first|refine blk_drewN ?_ _|refine blk_drew ?_|refine blk_alloc ?_ _));refine blk_put (cs:=#[.int .i64 0,.int .i64 0]) ?_ 0 _ rfl;(with_reducible repeat (first|refine blk_drewN ?_ _|refine blk_drew ?_|refine blk_alloc ?_ _));exact BK221.out⟩
                 have n2_ : Aside0 (Below w.heap.size w ((w48.setCell ⟨gb221,0,none⟩ (.int .i64 ((rd_T73 l0_1 (rd l1 x16_1)).f0))).setCell ⟨gb221,1,none⟩ (.int .i64 ((rd_T73 l0_1 (rd l1 x16_1)).f1)))):=⟨by repeat (first|(with_reducible first|exact HB.out|apply below_alloc|apply pw_below_drewN|apply below_drew1|refine below_set ?_ GE215.out|refine below_set ?_ GE221.out)|exact HB.out)⟩
                 (try clear BK215)
                 (try clear BK221)
                 (try clear HB)
                 generalize ((w48.setCell ⟨gb221,0,none⟩ (.int .i64 ((rd_T73 l0_1 (rd l1 x16_1)).f0))).setCell ⟨gb221,1,none⟩ (.int .i64 ((rd_T73 l0_1 (rd l1 x16_1)).f1))) = w51 at n0_ n1_ n2_ ⊢
                 have BK215:=n0_
                 have BK221:=n1_
                 have HB:=n2_
                 clear n0_ n1_ n2_
                 have n0_:=Aside0.mk (blk_drew BK215.out)
                 have n1_:=Aside0.mk (blk_drew BK221.out)
                 have n2_:=Aside0.mk (below_drew1 HB.out)
                 clear BK215
                 clear BK221
                 clear HB
                 have BK215:=n0_
                 have BK221:=n1_
                 have HB:=n2_
                 clear n0_ n1_ n2_
                 obtain ⟨i053,hi053,_,hsz53,_⟩:=info_parts info3
                 obtain ⟨hcut53,hA53,hC53⟩:=print_take_of (P:=Try.prog) (Value.int .i64) 0 23 3 .i64 Try.underlying23 hi053 hsz53 (some ad216) c1 l1 x16_1 (of_decide_eq_true az) (of_decide_eq_true az) HC1.out
                 have HR222:=Aside0.mk (Kd.C_of_reads (h1:=fun _=>rfl) (hA53 _ (Kd.reads_of_C HR1.out)))
                 have HC222:=Aside0.mk hC53
                 clear hA53 hC53 hi053 hsz53
                 refine start_ (n:=36) (S:=fun w'=>w'.cell? ⟨gb221,0,none⟩ = some (.int .i64 ((rd_T73 l0_1 (rd l1 x16_1)).f0)) ∧ w'.cell? ⟨gb221,1,none⟩ = some (.int .i64 ((rd_T73 l0_1 (rd l1 x16_1)).f1)) ∧ w'.cell? ⟨gb215,0,none⟩ = some (.int .i64 a0_0) ∧ w'.cell? ⟨gb215,1,none⟩ = some (.slice (some ad220) l0_1.length c0_1) ∧ w'.cell? ⟨gb215,2,none⟩ = some (.slice A0_2 l0_2.length c0_2)) (ds:=[]) #[false,false,false,false,false,false,false,false,false,false,false,false,false,false,false,false,false,false,false,false,false,false,false,false,false,false,false,false,false,false,false,false,false,false,false,false] (by kernel_rfl) rfl rfl ⟨(blk_cell BK221.out 0).trans rfl,(blk_cell BK221.out 1).trans rfl,(blk_cell BK215.out 0).trans rfl,(blk_cell BK215.out 1).trans rfl,(blk_cell BK215.out 2).trans rfl⟩ (fun hHeld=>?_);refine with_tabW spec_plOrder.tab9 spec_plOrder.bits9 (fun HT_ HW_=>?_)
                 generalize w51.drew = w52 at BK215 BK221 HB HR222 hHeld ⊢
                 refine pure_ (i:=0) (N:=some 40) (v:=?_) (a':=?_) #[true,false,false,false,false,false,false,false,false,false,false,false,false,false,false,false,false,false,false,false,false,false,false,false,false,false,false,false,false,false,false,false,false,false,false,false] rfl rfl (any_of HT_.out (by kernel_rfl)) (fun _ _ _ h=>h) (Or.inl ⟨by rfl,?_⟩) ?_ ?_
                 rotate_left
                 ·intro w'
                  go_simp
                  with_reducible rfl
                 rotate_left
                 ·simp only [Act.put,xa,xb,xc,i64_w,i32_w]
                  rfl
                 refine pure_ (i:=2) (N:=some 42) (v:=?_) (a':=?_) #[true,false,true,false,false,false,false,false,false,false,false,false,false,false,false,false,false,false,false,false,false,false,false,false,false,false,false,false,false,false,false,false,false,false,false,false] rfl rfl (any_of HT_.out (by kernel_rfl)) (fun _ _ _ h=>h) (Or.inl ⟨by rfl,?_⟩) ?_ ?_
                 rotate_left
                 ·intro w'
                  go_simp
                  with_reducible rfl
                 rotate_left
                 ·simp only [Act.put,xa,xb,xc,i64_w,i32_w]
                  rfl
                 refine take_ (i:=1) (N:=some 41) (v:=?_) (a':=?_) #[true,true,true,false,false,false,false,false,false,false,false,false,false,false,false,false,false,false,false,false,false,false,false,false,false,false,false,false,false,false,false,false,false,false,false,false] rfl rfl (take_ofW HT_.out HW_.out (by kernel_rfl)) (fun _ _ _ h=>h) (Or.inl ⟨by rfl,?_⟩) hHeld ?_ ?_
                 rotate_left
                 ·rintro w' ⟨s0,s1,s2,s3,s4⟩
                  go_simp
                  with_reducible rfl
                 rotate_left
                 ·simp only [Act.put,xa,xb,xc,i64_w,i32_w]
                  rfl
                 refine take_ (i:=3) (N:=some 43) (v:=?_) (a':=?_) #[true,true,true,true,false,false,false,false,false,false,false,false,false,false,false,false,false,false,false,false,false,false,false,false,false,false,false,false,false,false,false,false,false,false,false,false] rfl rfl (take_ofW HT_.out HW_.out (by kernel_rfl)) (fun _ _ _ h=>h) (Or.inl ⟨by rfl,?_⟩) hHeld ?_ ?_
                 rotate_left
                 ·rintro w' ⟨s0,s1,s2,s3,s4⟩
                  go_simp
                  with_reducible rfl
                 rotate_left
                 ·simp only [Act.put,xa,xb,xc,i64_w,i32_w]
                  rfl
                 refine pure_ (i:=4) (N:=some 44) (v:=?_) (a':=?_) #[true,true,true,true,true,false,false,false,false,false,false,false,false,false,false,false,false,false,false,false,false,false,false,false,false,false,false,false,false,false,false,false,false,false,false,false] rfl rfl (any_of HT_.out (by kernel_rfl)) (fun _ _ _ h=>h) (Or.inl ⟨by rfl,?_⟩) ?_ ?_
                 rotate_left
                 ·intro w'
                  go_simp
                  with_reducible rfl
                 rotate_left
                 ·simp only [Act.put,xa,xb,xc,i64_w,i32_w]
                  rfl
                 refine pure_ (i:=5) (N:=some 45) (v:=?_) (a':=?_) #[true,true,true,true,true,true,false,false,false,false,false,false,false,false,false,false,false,false,false,false,false,false,false,false,false,false,false,false,false,false,false,false,false,false,false,false] rfl rfl (any_of HT_.out (by kernel_rfl)) (fun _ _ _ h=>h) (Or.inl ⟨by rfl,?_⟩) ?_ ?_
                 rotate_left
                 ·intro w'
                  go_simp
                  with_reducible rfl
                 rotate_left
                 ·simp only [Act.put,xa,xb,xc,i64_w,i32_w]
                  rfl
                 refine pure_ (i:=6) (N:=some 46) (v:=?_) (a':=?_) #[true,true,true,true,true,true,true,false,false,false,false,false,false,false,false,false,false,false,false,false,false,false,false,false,false,false,false,false,false,false,false,false,false,false,false,false] rfl rfl (any_of HT_.out (by kernel_rfl)) (fun _ _ _ h=>h) (Or.inl ⟨by rfl,?_⟩) ?_ ?_
                 rotate_left
                 ·intro w'
                  go_simp
                  with_reducible rfl
                 rotate_left
                 ·simp only [Act.put,xa,xb,xc,i64_w,i32_w]
                  rfl
                 refine pure_ (i:=7) (N:=some 47) (v:=?_) (a':=?_) #[true,true,true,true,true,true,true,true,false,false,false,false,false,false,false,false,false,false,false,false,false,false,false,false,false,false,false,false,false,false,false,false,false,false,false,false] rfl rfl (any_of HT_.out (by kernel_rfl)) (fun _ _ _ h=>h) (Or.inl ⟨by rfl,?_⟩) ?_ ?_
                 rotate_left
                 ·intro w'
                  go_simp
                  with_reducible rfl
                 rotate_left
                 ·simp only [Act.put,xa,xb,xc,i64_w,i32_w]
                  rfl
                 refine pure_ (i:=8) (N:=some 48) (v:=?_) (a':=?_) #[true,true,true,true,true,true,true,true,true,false,false,false,false,false,false,false,false,false,false,false,false,false,false,false,false,false,false,false,false,false,false,false,false,false,false,false] rfl rfl (any_of HT_.out (by kernel_rfl)) (fun _ _ _ h=>h) (Or.inl ⟨by rfl,?_⟩) ?_ ?_
                 rotate_left
                 ·intro w'
                  go_simp
                  with_reducible rfl
                 rotate_left
                 ·simp only [Act.put,xa,xb,xc,i64_w,i32_w]
                  rfl
                 refine pure_ (i:=9) (N:=some 49) (v:=?_) (a':=?_) #[true,true,true,true,true,true,true,true,true,true,false,false,false,false,false,false,false,false,false,false,false,false,false,false,false,false,false,false,false,false,false,false,false,false,false,false] rfl rfl (any_of HT_.out (by kernel_rfl)) (fun _ _ _ h=>h) (Or.inl ⟨by rfl,?_⟩) ?_ ?_
                 rotate_left
                 ·intro w'
                  go_simp
                  with_reducible rfl
                 rotate_left
                 ·simp only [Act.put,xa,xb,xc,i64_w,i32_w]
                  rfl
                 refine pure_ (i:=11) (N:=some 51) (v:=?_) (a':=?_) #[true,true,true,true,true,true,true,true,true,true,false,true,false,false,false,false,false,false,false,false,false,false,false,false,false,false,false,false,false,false,false,false,false,false,false,false] rfl rfl (any_of HT_.out (by kernel_rfl)) (fun _ _ _ h=>h) (Or.inl ⟨by rfl,?_⟩) ?_ ?_
                 rotate_left
                 ·intro w'
                  go_simp
                  with_reducible rfl
                 rotate_left
                 ·simp only [Act.put,xa,xb,xc,i64_w,i32_w]
                  rfl
                 refine take_ (i:=10) (N:=some 50) (v:=?_) (a':=?_) #[true,true,true,true,true,true,true,true,true,true,true,true,false,false,false,false,false,false,false,false,false,false,false,false,false,false,false,false,false,false,false,false,false,false,false,false] rfl rfl (take_ofW HT_.out HW_.out (by kernel_rfl)) (fun _ _ _ h=>h) (Or.inl ⟨by rfl,?_⟩) hHeld ?_ ?_
                 rotate_left
                 ·rintro w' ⟨s0,s1,s2,s3,s4⟩
                  go_simp
                  with_reducible rfl
                 rotate_left
                 ·simp only [Act.put,xa,xb,xc,i64_w,i32_w]
                  rfl
                 refine take_ (i:=12) (N:=some 52) (v:=?_) (a':=?_) #[true,true,true,true,true,true,true,true,true,true,true,true,true,false,false,false,false,false,false,false,false,false,false,false,false,false,false,false,false,false,false,false,false,false,false,false] rfl rfl (take_ofW HT_.out HW_.out (by kernel_rfl)) (fun _ _ _ h=>h) (Or.inl ⟨by rfl,?_⟩) hHeld ?_ ?_
                 rotate_left
                 ·rintro w' ⟨s0,s1,s2,s3,s4⟩
                  go_simp
                  with_reducible rfl
                 rotate_left
                 ·simp only [Act.put,xa,xb,xc,i64_w,i32_w]
                  rfl
                 refine pure_ (i:=13) (N:=some 53) (v:=?_) (a':=?_) #[true,true,true,true,true,true,true,true,true,true,true,true,true,true,false,false,false,false,false,false,false,false,false,false,false,false,false,false,false,false,false,false,false,false,false,false] rfl rfl (any_of HT_.out (by kernel_rfl)) (fun _ _ _ h=>h) (Or.inl ⟨by rfl,?_⟩) ?_ ?_
                 rotate_left
                 ·intro w'
                  go_simp
                  with_reducible rfl
                 rotate_left
                 ·simp only [Act.put,xa,xb,xc,i64_w,i32_w]
                  rfl
                 refine one_ (i:=14) (N:=some 54) #[true,true,true,true,true,true,true,true,true,true,true,true,true,true,true,false,false,false,false,false,false,false,false,false,false,false,false,false,false,false,false,false,false,false,false,false] rfl rfl (one_of HT_.out (by kernel_rfl)) (by decide) (fun K hK=>?_)
                 refine goes_ Try.func98 (by kernel_rfl) rfl #[.slice (some ad216) (l1.take (x16_1 : Int).toNat).length c1,.int .i64 (wrap64 (((rd_T73 l0_1 (rd l1 x16_1)).f0) - a0_0))] (by rfl) rfl rfl (by (try simp only [List.map_toArray,List.map_cons,List.map_nil]);first|done|(rw [show (l1.take (x16_1 : Int).toNat).length = x16_1.toNat from (by rw [List.length_take];have h_ : (x16_1 : Int) ≤ (l1.length : Int):=of_decide_eq_true az;omega)] <;> rfl)|rfl|(simp only [List.length_drop,List.length_take];rfl)) ?_
                 with_reducible refine (spec_l1Has.calls kj8 _ _ (l1.take (x16_1 : Int).toNat) (wrap64 (((rd_T73 l0_1 (rd l1 x16_1)).f0) - a0_0)) true _ ?side1 ?side2 A24.out).mono ?_
                 (case side1=>exact cz (Kd.C_below HR222.out HB.out))
                 (case side2=>exact HC222.out)
                 rintro e w' ⟨rfl,⟨nd,rfl⟩⟩
                 refine ⟨_,rfl,?_⟩
                 refine hK.out _ _ ⟨(blk_cell BK221.out 0).trans rfl,(blk_cell BK221.out 1).trans rfl,(blk_cell BK215.out 0).trans rfl,(blk_cell BK215.out 1).trans rfl,(blk_cell BK215.out 2).trans rfl⟩ (fun hHeld=>?_)
                 clear hK K
                 refine norm_ (a':=?_) ?_ ?_
                 rotate_left
                 ·show Act.put _ (some 54) _ = _
                  simp only [Act.put,xa,xb,xc,i64_w,i32_w]
                  rfl
                 refine pure_ (i:=15) (N:=some 55) (v:=?_) (a':=?_) #[true,true,true,true,true,true,true,true,true,true,true,true,true,true,true,true,false,false,false,false,false,false,false,false,false,false,false,false,false,false,false,false,false,false,false,false] rfl rfl (any_of HT_.out (by kernel_rfl)) (fun _ _ _ h=>h) (Or.inl ⟨by rfl,?_⟩) ?_ ?_
                 rotate_left
                 ·intro w'
                  go_simp
                  with_reducible rfl
                 rotate_left
                 ·simp only [Act.put,xa,xb,xc,i64_w,i32_w]
                  rfl
                 refine pure_ (i:=16) (N:=some 56) (v:=?_) (a':=?_) #[true,true,true,true,true,true,true,true,true,true,true,true,true,true,true,true,true,false,false,false,false,false,false,false,false,false,false,false,false,false,false,false,false,false,false,false] rfl rfl (any_of HT_.out (by kernel_rfl)) (fun _ _ _ h=>h) (Or.inl ⟨by rfl,?_⟩) ?_ ?_
                 rotate_left
                 ·intro w'
                  go_simp
                  with_reducible rfl
                 rotate_left
                 ·simp only [Act.put,xa,xb,xc,i64_w,i32_w]
                  rfl
                 refine pure_ (i:=17) (N:=some 57) (v:=?_) (a':=?_) #[true,true,true,true,true,true,true,true,true,true,true,true,true,true,true,true,true,true,false,false,false,false,false,false,false,false,false,false,false,false,false,false,false,false,false,false] rfl rfl (any_of HT_.out (by kernel_rfl)) (fun _ _ _ h=>h) (Or.inl ⟨by rfl,?_⟩) ?_ ?_
                 rotate_left
                 ·intro w'
                  go_simp
                  with_reducible rfl
                 rotate_left
                 ·simp only [Act.put,xa,xb,xc,i64_w,i32_w]
                  rfl
                 refine pure_ (i:=18) (N:=some 58) (v:=?_) (a':=?_) #[true,true,true,true,true,true,true,true,true,true,true,true,true,true,true,true,true,true,true,false,false,false,false,false,false,false,false,false,false,false,false,false,false,false,false,false] rfl rfl (any_of HT_.out (by kernel_rfl)) (fun _ _ _ h=>h) (Or.inl ⟨by rfl,?_⟩) ?_ ?_
                 rotate_left
                 ·intro w'
                  go_simp
                  with_reducible rfl
                 rotate_left
                 ·simp only [Act.put,xa,xb,xc,i64_w,i32_w]
                  rfl
                 refine pure_ (i:=20) (N:=some 60) (v:=?_) (a':=?_) #[true,true,true,true,true,true,true,true,true,true,true,true,true,true,true,true,true,true,true,false,true,false,false,false,false,false,false,false,false,false,false,false,false,false,false,false] rfl rfl (any_of HT_.out (by kernel_rfl)) (fun _ _ _ h=>h) (Or.inl ⟨by rfl,?_⟩) ?_ ?_
                 rotate_left
                 ·intro w'
                  go_simp
                  with_reducible rfl
                 rotate_left
                 ·simp only [Act.put,xa,xb,xc,i64_w,i32_w]
                  rfl
                 refine take_ (i:=19) (N:=some 59) (v:=?_) (a':=?_) #[true,true,true,true,true,true,true,true,true,true,true,true,true,true,true,true,true,true,true,true,true,false,false,false,false,false,false,false,false,false,false,false,false,false,false,false] rfl rfl (take_ofW HT_.out HW_.out (by kernel_rfl)) (fun _ _ _ h=>h) (Or.inl ⟨by rfl,?_⟩) hHeld ?_ ?_
                 rotate_left
                 ·rintro w' ⟨s0,s1,s2,s3,s4⟩
                  go_simp
                  with_reducible rfl
                 rotate_left
                 ·simp only [Act.put,xa,xb,xc,i64_w,i32_w]
                  rfl
                 refine take_ (i:=21) (N:=some 61) (v:=?_) (a':=?_) #[true,true,true,true,true,true,true,true,true,true,true,true,true,true,true,true,true,true,true,true,true,true,false,false,false,false,false,false,false,false,false,false,false,false,false,false] rfl rfl (take_ofW HT_.out HW_.out (by kernel_rfl)) (fun _ _ _ h=>h) (Or.inl ⟨by rfl,?_⟩) hHeld ?_ ?_
                 rotate_left
                 ·rintro w' ⟨s0,s1,s2,s3,s4⟩
                  go_simp
                  with_reducible rfl
                 rotate_left
                 ·simp only [Act.put,xa,xb,xc,i64_w,i32_w]
                  rfl
                 refine pure_ (i:=22) (N:=some 62) (v:=?_) (a':=?_) #[true,true,true,true,true,true,true,true,true,true,true,true,true,true,true,true,true,true,true,true,true,true,true,false,false,false,false,false,false,false,false,false,false,false,false,false] rfl rfl (any_of HT_.out (by kernel_rfl)) (fun _ _ _ h=>h) (Or.inl ⟨by rfl,?_⟩) ?_ ?_
                 rotate_left
                 ·intro w'
                  go_simp
                  with_reducible rfl
                 rotate_left
                 ·simp only [Act.put,xa,xb,xc,i64_w,i32_w]
                  rfl
                 refine pure_ (i:=23) (N:=some 63) (v:=?_) (a':=?_) #[true,true,true,true,true,true,true,true,true,true,true,true,true,true,true,true,true,true,true,true,true,true,true,true,false,false,false,false,false,false,false,false,false,false,false,false] rfl rfl (any_of HT_.out (by kernel_rfl)) (fun _ _ _ h=>h) (Or.inl ⟨by rfl,?_⟩) ?_ ?_
                 rotate_left
                 ·intro w'
                  go_simp
                  with_reducible rfl
                 rotate_left
                 ·simp only [Act.put,xa,xb,xc,i64_w,i32_w]
                  rfl
                 refine pure_ (i:=24) (N:=some 64) (v:=undef) (a':=?_) #[true,true,true,true,true,true,true,true,true,true,true,true,true,true,true,true,true,true,true,true,true,true,true,true,true,false,false,false,false,false,false,false,false,false,false,false] rfl rfl (any_of HT_.out (by kernel_rfl)) (fun _ _ _ h=>h) (Or.inr ⟨by rfl,rfl⟩) ?_ ?_
                 rotate_left
                 ·simp only [Act.put,xa,xb,xc,i64_w,i32_w]
                  rfl
                 refine pure_ (i:=25) (N:=some 65) (v:=undef) (a':=?_) #[true,true,true,true,true,true,true,true,true,true,true,true,true,true,true,true,true,true,true,true,true,true,true,true,true,true,false,false,false,false,false,false,false,false,false,false] rfl rfl (any_of HT_.out (by kernel_rfl)) (fun _ _ _ h=>h) (Or.inr ⟨by rfl,rfl⟩) ?_ ?_
                 rotate_left
                 ·simp only [Act.put,xa,xb,xc,i64_w,i32_w]
                  rfl
                 refine pure_ (i:=26) (N:=some 66) (v:=undef) (a':=?_) #[true,true,true,true,true,true,true,true,true,true,true,true,true,true,true,true,true,true,true,true,true,true,true,true,true,true,true,false,false,false,false,false,false,false,false,false] rfl rfl (any_of HT_.out (by kernel_rfl)) (fun _ _ _ h=>h) (Or.inr ⟨by rfl,rfl⟩) ?_ ?_
                 rotate_left
                 ·simp only [Act.put,xa,xb,xc,i64_w,i32_w]
                  rfl
                 refine pure_ (i:=27) (N:=some 67) (v:=undef) (a':=?_) #[true,true,true,true,true,true,true,true,true,true,true,true,true,true,true,true,true,true,true,true,true,true,true,true,true,true,true,true,false,false,false,false,false,false,false,false] rfl rfl (any_of HT_.out (by kernel_rfl)) (fun _ _ _ h=>h) (Or.inr ⟨by rfl,rfl⟩) ?_ ?_
                 rotate_left
                 ·simp only [Act.put,xa,xb,xc,i64_w,i32_w]
                  rfl
                 refine pure_ (i:=28) (N:=some 68) (v:=undef) (a':=?_) #[true,true,true,true,true,true,true,true,true,true,true,true,true,true,true,true,true,true,true,true,true,true,true,true,true,true,true,true,true,false,false,false,false,false,false,false] rfl rfl (any_of HT_.out (by kernel_rfl)) (fun _ _ _ h=>h) (Or.inr ⟨by rfl,rfl⟩) ?_ ?_
                 rotate_left
                 ·simp only [Act.put,xa,xb,xc,i64_w,i32_w]
                  rfl
                 refine pure_ (i:=29) (N:=some 69) (v:=undef) (a':=?_) #[true,true,true,true,true,true,true,true,true,true,true,true,true,true,true,true,true,true,true,true,true,true,true,true,true,true,true,true,true,true,false,false,false,false,false,false] rfl rfl (any_of HT_.out (by kernel_rfl)) (fun _ _ _ h=>h) (Or.inr ⟨by rfl,rfl⟩) ?_ ?_
                 rotate_left
                 ·simp only [Act.put,xa,xb,xc,i64_w,i32_w]
                  rfl
                 refine pure_ (i:=30) (N:=some 70) (v:=undef) (a':=?_) #[true,true,true,true,true,true,true,true,true,true,true,true,true,true,true,true,true,true,true,true,true,true,true,true,true,true,true,true,true,true,true,false,false,false,false,false] rfl rfl (any_of HT_.out (by kernel_rfl)) (fun _ _ _ h=>h) (Or.inr ⟨by rfl,rfl⟩) ?_ ?_
                 rotate_left
                 ·simp only [Act.put,xa,xb,xc,i64_w,i32_w]
                  rfl
                 refine pure_ (i:=31) (N:=some 71) (v:=undef) (a':=?_) #[true,true,true,true,true,true,true,true,true,true,true,true,true,true,true,true,true,true,true,true,true,true,true,true,true,true,true,true,true,true,true,true,false,false,false,false] rfl rfl (any_of HT_.out (by kernel_rfl)) (fun _ _ _ h=>h) (Or.inr ⟨by rfl,rfl⟩) ?_ ?_
                 rotate_left
                 ·simp only [Act.put,xa,xb,xc,i64_w,i32_w]
                  rfl
                 refine pure_ (i:=32) (N:=some 72) (v:=undef) (a':=?_) #[true,true,true,true,true,true,true,true,true,true,true,true,true,true,true,true,true,true,true,true,true,true,true,true,true,true,true,true,true,true,true,true,true,false,false,false] rfl rfl (any_of HT_.out (by kernel_rfl)) (fun _ _ _ h=>h) (Or.inr ⟨by rfl,rfl⟩) ?_ ?_
                 rotate_left
                 ·simp only [Act.put,xa,xb,xc,i64_w,i32_w]
                  rfl
                 refine pure_ (i:=33) (N:=some 73) (v:=undef) (a':=?_) #[true,true,true,true,true,true,true,true,true,true,true,true,true,true,true,true,true,true,true,true,true,true,true,true,true,true,true,true,true,true,true,true,true,true,false,false] rfl rfl (any_of HT_.out (by kernel_rfl)) (fun _ _ _ h=>h) (Or.inr ⟨by rfl,rfl⟩) ?_ ?_
                 rotate_left
                 ·simp only [Act.put,xa,xb,xc,i64_w,i32_w]
                  rfl
                 refine pure_ (i:=34) (N:=some 74) (v:=?_) (a':=?_) #[true,true,true,true,true,true,true,true,true,true,true,true,true,true,true,true,true,true,true,true,true,true,true,true,true,true,true,true,true,true,true,true,true,true,true,false] rfl rfl (any_of HT_.out (by kernel_rfl)) (fun _ _ _ h=>h) (Or.inl ⟨by rfl,?_⟩) ?_ ?_
                 rotate_left
                 ·intro w'
                  go_simp
                  with_reducible rfl
                 rotate_left
                 ·simp only [Act.put,xa,xb,xc,i64_w,i32_w]
                  rfl
                 refine pure_ (i:=35) (N:=some 75) (v:=?_) (a':=?_) #[true,true,true,true,true,true,true,true,true,true,true,true,true,true,true,true,true,true,true,true,true,true,true,true,true,true,true,true,true,true,true,true,true,true,true,true] rfl rfl (any_of HT_.out (by kernel_rfl)) (fun _ _ _ h=>h) (Or.inl ⟨by rfl,?_⟩) ?_ ?_
                 rotate_left
                 ·intro w'
                  go_simp
                  with_reducible rfl
                 rotate_left
                 ·simp only [Act.put,xa,xb,xc,i64_w,i32_w]
                  rfl
                 refine done_ (done_of HT_.out (by kernel_rfl)) ?_
                 try go_wp2
                 go_roundg kj8
                 case measure=>have:=HK1.out;have:=HJ8.out;omega
                 case rel=>exact ⟨(wrap64 (x16_1 + 1)),fz,H',⟨by have:=HK1.out;have:=HJ8.out;omega⟩,⟨by (with_reducible repeat (first|refine blk_drewN ?_ _|refine blk_drew ?_|refine blk_alloc ?_ _));exact BK215.out⟩,⟨by repeat (first|(with_reducible first|exact HB.out|apply below_alloc|apply pw_below_drewN|apply below_drew1|refine below_set ?_ GE215.out|refine below_set ?_ GE221.out)|exact HB.out)⟩⟩
               ·replace c25:=Bool.eq_false_iff.mpr c25
                subst c25
                rw [if_neg (show ¬ (false = true) by decide)] at H
                obtain rfl:=Option.some.inj H
                have hcz54_0 : wc.cell? ⟨gb215,0,none⟩ = some (.int .i64 a0_0):=(blk_cell BK215.out 0).trans rfl
                have hcz54_1 : wc.cell? ⟨gb215,1,none⟩ = some (.slice A0_1 l0_1.length c0_1):=(blk_cell BK215.out 1).trans rfl
                have hcz54_2 : wc.cell? ⟨gb215,2,none⟩ = some (.slice A0_2 l0_2.length c0_2):=(blk_cell BK215.out 2).trans rfl
                have hfz54_0:=blk_frozen BK215.out 0
                have hfz54_1:=blk_frozen BK215.out 1
                have hfz54_2:=blk_frozen BK215.out 2
                have p220 : 0 ≤ ((rd l1 x16_1) : Int):=of_decide_eq_true az
                have q220 : (rd l1 x16_1) < (l0_1.length : Int):=of_decide_eq_true az
                obtain ⟨ad220,e220,hx220_0,hx220_1⟩:=at_T73 HR0_1.out (rd l1 x16_1) p220 q220
                cases e220
                replace hx220_0:=(HB.out.cell (World.block_lt_of_cell? w _ hx220_0)).trans hx220_0
                replace hx220_1:=(HB.out.cell (World.block_lt_of_cell? w _ hx220_1)).trans hx220_1
                replace p220:=eq_true p220
                replace q220:=eq_true q220
                try go_wp2_with (first|((with_reducible refine gate_dst (N:=7) rfl ?_);refine box_event ?hg (N:=7) ?hd (cs:=#[.int .i64 0,.int .i64 0]) (t:=73) ?hr ?_;(case hd=>rfl);(case hg=>rfl);(case hr=>first|(go_simp;done)|(go_simp;rfl));intro gb221 hg w55 hbox hb;have n0_:=Aside0.mk (kb BK215.out hb);have n1_:=Aside0.mk (below_step bs hb);have n2_:=Aside0.mk (hbox);have n3_:=Aside0.mk ((by rw [hg];exact (below_size bs) : w.heap.size ≤ gb221));have n4_:=Aside0.mk ((by rw [hg];exact (below_size bs) : w.heap.size ≤ gb221));have n5_:=Aside0.mk (kn hg BK215.out);have n6_:=Aside0.mk (km hg BK215.out);clear BK215 HB;have BK215:=n0_;have HB:=n1_;have BK221:=n2_;have GW221:=n3_;have GE221:=n4_;have NB215_221:=n5_;have NB221_215:=n6_;clear n0_ n1_ n2_ n3_ n4_ n5_ n6_;clear hb hbox hg;have hnb56:=NB221_215.out;have hnc56:=NB215_221.out;have hcz57_0 : w55.cell? ⟨gb221,0,none⟩ = some (.int .i64 0):=(blk_cell BK221.out 0).trans rfl;have hcz57_1 : w55.cell? ⟨gb221,1,none⟩ = some (.int .i64 0):=(blk_cell BK221.out 1).trans rfl;have hfz57_0:=blk_frozen BK221.out 0;have hfz57_1:=blk_frozen BK221.out 1))
                have n0_ : Aside0 (((w55.setCell ⟨gb221,0,none⟩ (.int .i64 ((rd_T73 l0_1 (rd l1 x16_1)).f0))).setCell ⟨gb221,1,none⟩ (.int .i64 ((rd_T73 l0_1 (rd l1 x16_1)).f1))).heap[gb215]? = some (.cells #[.int .i64 a0_0,.slice (some ad220) l0_1.length c0_1,.slice A0_2 l0_2.length c0_2] 29 (0,0))):=⟨by (with_reducible repeat (first|refine blk_drewN ?_ _|refine blk_drew ?_|refine blk_alloc ?_ _));refine blk_far ?_ NB215_221.out _;(with_reducible repeat (first|refine blk_drewN ?_ _|refine blk_drew ?_|refine blk_alloc ?_ _));refine blk_far ?_ NB215_221.out _;(with_reducible repeat (first|refine blk_drewN ?_ _|refine blk_drew ?_|refine blk_alloc ?_ _));exact BK215.out⟩
                have n1_ : Aside0 (((w55.setCell ⟨gb221,0,none⟩ (.int .i64 ((rd_T73 l0_1 (rd l1 x16_1)).f0))).setCell ⟨gb221,1,none⟩ (.int .i64 ((rd_T73 l0_1 (rd l1 x16_1)).f1))).heap[gb221]? = some (.cells #[.int .i64 ((rd_T73 l0_1 (rd l1 x16_1)).f0),.int .i64 ((rd_T73 l0_1 (rd l1 x16_1)).f1)] 73 (0,0))):=⟨by (with_reducible repeat (first|refine blk_drewN ?_ _|refine blk_drew ?_|refine blk_alloc ?_ _));refine blk_put (cs:=#[.int .i64 ((rd_T73 l0_1 (rd l1 x16_1)).f0),.int .i64 0]) ?_ 1 _ rfl;(with_reducible repeat (first|refine blk_drewN ?_ _|refine blk_drew ?_|refine blk_alloc ?_ _));refine blk_put (cs:=#[.int .i64 0,.int .i64 0]) ?_ 0 _ rfl;(with_reducible repeat (first|refine blk_drewN ?_ _|refine blk_drew ?_|refine blk_alloc ?_ _));exact BK221.out⟩
                have n2_ : Aside0 (Below w.heap.size w ((w55.setCell ⟨gb221,0,none⟩ (.int .i64 ((rd_T73 l0_1 (rd l1 x16_1)).f0))).setCell ⟨gb221,1,none⟩ (.int .i64 ((rd_T73 l0_1 (rd l1 x16_1)).f1)))):=⟨by repeat (first|(with_reducible first|exact HB.out|apply below_alloc|apply pw_below_drewN|apply below_drew1|refine below_set ?_ GE215.out|refine below_set ?_ GE221.out)|exact HB.out)⟩
                (try clear BK215)
                (try clear BK221)
                (try clear HB)
                generalize ((w55.setCell ⟨gb221,0,none⟩ (.int .i64 ((rd_T73 l0_1 (rd l1 x16_1)).f0))).setCell ⟨gb221,1,none⟩ (.int .i64 ((rd_T73 l0_1 (rd l1 x16_1)).f1))) = w58 at n0_ n1_ n2_ ⊢
                have BK215:=n0_
                have BK221:=n1_
                have HB:=n2_
                clear n0_ n1_ n2_
                have n0_:=Aside0.mk (blk_drew BK215.out)
                have n1_:=Aside0.mk (blk_drew BK221.out)
                have n2_:=Aside0.mk (below_drew1 HB.out)
                clear BK215
                clear BK221
                clear HB
                have BK215:=n0_
                have BK221:=n1_
                have HB:=n2_
                clear n0_ n1_ n2_
                obtain ⟨i060,hi060,_,hsz60,_⟩:=info_parts info3
                obtain ⟨hcut60,hA60,hC60⟩:=print_take_of (P:=Try.prog) (Value.int .i64) 0 23 3 .i64 Try.underlying23 hi060 hsz60 (some ad216) c1 l1 x16_1 (of_decide_eq_true az) (of_decide_eq_true az) HC1.out
                have HR222:=Aside0.mk (Kd.C_of_reads (h1:=fun _=>rfl) (hA60 _ (Kd.reads_of_C HR1.out)))
                have HC222:=Aside0.mk hC60
                clear hA60 hC60 hi060 hsz60
                refine start_ (n:=36) (S:=fun w'=>w'.cell? ⟨gb221,0,none⟩ = some (.int .i64 ((rd_T73 l0_1 (rd l1 x16_1)).f0)) ∧ w'.cell? ⟨gb221,1,none⟩ = some (.int .i64 ((rd_T73 l0_1 (rd l1 x16_1)).f1)) ∧ w'.cell? ⟨gb215,0,none⟩ = some (.int .i64 a0_0) ∧ w'.cell? ⟨gb215,1,none⟩ = some (.slice (some ad220) l0_1.length c0_1) ∧ w'.cell? ⟨gb215,2,none⟩ = some (.slice A0_2 l0_2.length c0_2)) (ds:=[]) #[false,false,false,false,false,false,false,false,false,false,false,false,false,false,false,false,false,false,false,false,false,false,false,false,false,false,false,false,false,false,false,false,false,false,false,false] (by kernel_rfl) rfl rfl ⟨(blk_cell BK221.out 0).trans rfl,(blk_cell BK221.out 1).trans rfl,(blk_cell BK215.out 0).trans rfl,(blk_cell BK215.out 1).trans rfl,(blk_cell BK215.out 2).trans rfl⟩ (fun hHeld=>?_);refine with_tabW spec_plOrder.tab9 spec_plOrder.bits9 (fun HT_ HW_=>?_)
                generalize w58.drew = w59 at BK215 BK221 HB HR222 hHeld ⊢
                refine pure_ (i:=0) (N:=some 40) (v:=?_) (a':=?_) #[true,false,false,false,false,false,false,false,false,false,false,false,false,false,false,false,false,false,false,false,false,false,false,false,false,false,false,false,false,false,false,false,false,false,false,false] rfl rfl (any_of HT_.out (by kernel_rfl)) (fun _ _ _ h=>h) (Or.inl ⟨by rfl,?_⟩) ?_ ?_
                rotate_left
                ·intro w'
                 go_simp
                 with_reducible rfl
                rotate_left
                ·simp only [Act.put,xa,xb,xc,i64_w,i32_w]
                 rfl
                refine pure_ (i:=2) (N:=some 42) (v:=?_) (a':=?_) #[true,false,true,false,false,false,false,false,false,false,false,false,false,false,false,false,false,false,false,false,false,false,false,false,false,false,false,false,false,false,false,false,false,false,false,false] rfl rfl (any_of HT_.out (by kernel_rfl)) (fun _ _ _ h=>h) (Or.inl ⟨by rfl,?_⟩) ?_ ?_
                rotate_left
                ·intro w'
                 go_simp
                 with_reducible rfl
                rotate_left
                ·simp only [Act.put,xa,xb,xc,i64_w,i32_w]
                 rfl
                refine take_ (i:=1) (N:=some 41) (v:=?_) (a':=?_) #[true,true,true,false,false,false,false,false,false,false,false,false,false,false,false,false,false,false,false,false,false,false,false,false,false,false,false,false,false,false,false,false,false,false,false,false] rfl rfl (take_ofW HT_.out HW_.out (by kernel_rfl)) (fun _ _ _ h=>h) (Or.inl ⟨by rfl,?_⟩) hHeld ?_ ?_
                rotate_left
                ·rintro w' ⟨s0,s1,s2,s3,s4⟩
                 go_simp
                 with_reducible rfl
                rotate_left
                ·simp only [Act.put,xa,xb,xc,i64_w,i32_w]
                 rfl
                refine take_ (i:=3) (N:=some 43) (v:=?_) (a':=?_) #[true,true,true,true,false,false,false,false,false,false,false,false,false,false,false,false,false,false,false,false,false,false,false,false,false,false,false,false,false,false,false,false,false,false,false,false] rfl rfl (take_ofW HT_.out HW_.out (by kernel_rfl)) (fun _ _ _ h=>h) (Or.inl ⟨by rfl,?_⟩) hHeld ?_ ?_
                rotate_left
                ·rintro w' ⟨s0,s1,s2,s3,s4⟩
                 go_simp
                 with_reducible rfl
                rotate_left
                ·simp only [Act.put,xa,xb,xc,i64_w,i32_w]
                 rfl
                refine pure_ (i:=4) (N:=some 44) (v:=?_) (a':=?_) #[true,true,true,true,true,false,false,false,false,false,false,false,false,false,false,false,false,false,false,false,false,false,false,false,false,false,false,false,false,false,false,false,false,false,false,false] rfl rfl (any_of HT_.out (by kernel_rfl)) (fun _ _ _ h=>h) (Or.inl ⟨by rfl,?_⟩) ?_ ?_
                rotate_left
                ·intro w'
                 go_simp
                 with_reducible rfl
                rotate_left
                ·simp only [Act.put,xa,xb,xc,i64_w,i32_w]
                 rfl
                refine pure_ (i:=5) (N:=some 45) (v:=?_) (a':=?_) #[true,true,true,true,true,true,false,false,false,false,false,false,false,false,false,false,false,false,false,false,false,false,false,false,false,false,false,false,false,false,false,false,false,false,false,false] rfl rfl (any_of HT_.out (by kernel_rfl)) (fun _ _ _ h=>h) (Or.inl ⟨by rfl,?_⟩) ?_ ?_
                rotate_left
                ·intro w'
                 go_simp
                 with_reducible rfl
                rotate_left
                ·simp only [Act.put,xa,xb,xc,i64_w,i32_w]
                 rfl
                refine pure_ (i:=6) (N:=some 46) (v:=?_) (a':=?_) #[true,true,true,true,true,true,true,false,false,false,false,false,false,false,false,false,false,false,false,false,false,false,false,false,false,false,false,false,false,false,false,false,false,false,false,false] rfl rfl (any_of HT_.out (by kernel_rfl)) (fun _ _ _ h=>h) (Or.inl ⟨by rfl,?_⟩) ?_ ?_
                rotate_left
                ·intro w'
                 go_simp
                 with_reducible rfl
                rotate_left
                ·simp only [Act.put,xa,xb,xc,i64_w,i32_w]
                 rfl
                refine pure_ (i:=7) (N:=some 47) (v:=?_) (a':=?_) #[true,true,true,true,true,true,true,true,false,false,false,false,false,false,false,false,false,false,false,false,false,false,false,false,false,false,false,false,false,false,false,false,false,false,false,false] rfl rfl (any_of HT_.out (by kernel_rfl)) (fun _ _ _ h=>h) (Or.inl ⟨by rfl,?_⟩) ?_ ?_
                rotate_left
                ·intro w'
                 go_simp
                 with_reducible rfl
                rotate_left
                ·simp only [Act.put,xa,xb,xc,i64_w,i32_w]
                 rfl
                refine pure_ (i:=8) (N:=some 48) (v:=?_) (a':=?_) #[true,true,true,true,true,true,true,true,true,false,false,false,false,false,false,false,false,false,false,false,false,false,false,false,false,false,false,false,false,false,false,false,false,false,false,false] rfl rfl (any_of HT_.out (by kernel_rfl)) (fun _ _ _ h=>h) (Or.inl ⟨by rfl,?_⟩) ?_ ?_
                rotate_left
                ·intro w'
                 go_simp
                 with_reducible rfl
                rotate_left
                ·simp only [Act.put,xa,xb,xc,i64_w,i32_w]
                 rfl
                refine pure_ (i:=9) (N:=some 49) (v:=?_) (a':=?_) #[true,true,true,true,true,true,true,true,true,true,false,false,false,false,false,false,false,false,false,false,false,false,false,false,false,false,false,false,false,false,false,false,false,false,false,false] rfl rfl (any_of HT_.out (by kernel_rfl)) (fun _ _ _ h=>h) (Or.inl ⟨by rfl,?_⟩) ?_ ?_
                rotate_left
                ·intro w'
                 go_simp
                 with_reducible rfl
                rotate_left
                ·simp only [Act.put,xa,xb,xc,i64_w,i32_w]
                 rfl
                refine pure_ (i:=11) (N:=some 51) (v:=?_) (a':=?_) #[true,true,true,true,true,true,true,true,true,true,false,true,false,false,false,false,false,false,false,false,false,false,false,false,false,false,false,false,false,false,false,false,false,false,false,false] rfl rfl (any_of HT_.out (by kernel_rfl)) (fun _ _ _ h=>h) (Or.inl ⟨by rfl,?_⟩) ?_ ?_
                rotate_left
                ·intro w'
                 go_simp
                 with_reducible rfl
                rotate_left
                ·simp only [Act.put,xa,xb,xc,i64_w,i32_w]
                 rfl
                refine take_ (i:=10) (N:=some 50) (v:=?_) (a':=?_) #[true,true,true,true,true,true,true,true,true,true,true,true,false,false,false,false,false,false,false,false,false,false,false,false,false,false,false,false,false,false,false,false,false,false,false,false] rfl rfl (take_ofW HT_.out HW_.out (by kernel_rfl)) (fun _ _ _ h=>h) (Or.inl ⟨by rfl,?_⟩) hHeld ?_ ?_
                rotate_left
                ·rintro w' ⟨s0,s1,s2,s3,s4⟩
                 go_simp
                 with_reducible rfl
                rotate_left
                ·simp only [Act.put,xa,xb,xc,i64_w,i32_w]
                 rfl
                refine take_ (i:=12) (N:=some 52) (v:=?_) (a':=?_) #[true,true,true,true,true,true,true,true,true,true,true,true,true,false,false,false,false,false,false,false,false,false,false,false,false,false,false,false,false,false,false,false,false,false,false,false] rfl rfl (take_ofW HT_.out HW_.out (by kernel_rfl)) (fun _ _ _ h=>h) (Or.inl ⟨by rfl,?_⟩) hHeld ?_ ?_
                rotate_left
                ·rintro w' ⟨s0,s1,s2,s3,s4⟩
                 go_simp
                 with_reducible rfl
                rotate_left
                ·simp only [Act.put,xa,xb,xc,i64_w,i32_w]
                 rfl
                refine pure_ (i:=13) (N:=some 53) (v:=?_) (a':=?_) #[true,true,true,true,true,true,true,true,true,true,true,true,true,true,false,false,false,false,false,false,false,false,false,false,false,false,false,false,false,false,false,false,false,false,false,false] rfl rfl (any_of HT_.out (by kernel_rfl)) (fun _ _ _ h=>h) (Or.inl ⟨by rfl,?_⟩) ?_ ?_
                rotate_left
                ·intro w'
                 go_simp
                 with_reducible rfl
                rotate_left
                ·simp only [Act.put,xa,xb,xc,i64_w,i32_w]
                 rfl
                refine one_ (i:=14) (N:=some 54) #[true,true,true,true,true,true,true,true,true,true,true,true,true,true,true,false,false,false,false,false,false,false,false,false,false,false,false,false,false,false,false,false,false,false,false,false] rfl rfl (one_of HT_.out (by kernel_rfl)) (by decide) (fun K hK=>?_)
                refine goes_ Try.func98 (by kernel_rfl) rfl #[.slice (some ad216) (l1.take (x16_1 : Int).toNat).length c1,.int .i64 (wrap64 (((rd_T73 l0_1 (rd l1 x16_1)).f0) - a0_0))] (by rfl) rfl rfl (by (try simp only [List.map_toArray,List.map_cons,List.map_nil]);first|done|(rw [show (l1.take (x16_1 : Int).toNat).length = x16_1.toNat from (by rw [List.length_take];have h_ : (x16_1 : Int) ≤ (l1.length : Int):=of_decide_eq_true az;omega)] <;> rfl)|rfl|(simp only [List.length_drop,List.length_take];rfl)) ?_
                with_reducible refine (spec_l1Has.calls kj8 _ _ (l1.take (x16_1 : Int).toNat) (wrap64 (((rd_T73 l0_1 (rd l1 x16_1)).f0) - a0_0)) false _ ?side1 ?side2 A24.out).mono ?_
                (case side1=>exact cz (Kd.C_below HR222.out HB.out))
                (case side2=>exact HC222.out)
                rintro e w' ⟨rfl,⟨nd,rfl⟩⟩
                refine ⟨_,rfl,?_⟩
                refine hK.out _ _ ⟨(blk_cell BK221.out 0).trans rfl,(blk_cell BK221.out 1).trans rfl,(blk_cell BK215.out 0).trans rfl,(blk_cell BK215.out 1).trans rfl,(blk_cell BK215.out 2).trans rfl⟩ (fun hHeld=>?_)
                clear hK K
                refine norm_ (a':=?_) ?_ ?_
                rotate_left
                ·show Act.put _ (some 54) _ = _
                 simp only [Act.put,xa,xb,xc,i64_w,i32_w]
                 rfl
                refine pure_ (i:=15) (N:=some 55) (v:=?_) (a':=?_) #[true,true,true,true,true,true,true,true,true,true,true,true,true,true,true,true,false,false,false,false,false,false,false,false,false,false,false,false,false,false,false,false,false,false,false,false] rfl rfl (any_of HT_.out (by kernel_rfl)) (fun _ _ _ h=>h) (Or.inl ⟨by rfl,?_⟩) ?_ ?_
                rotate_left
                ·intro w'
                 go_simp
                 with_reducible rfl
                rotate_left
                ·simp only [Act.put,xa,xb,xc,i64_w,i32_w]
                 rfl
                refine pure_ (i:=16) (N:=some 56) (v:=?_) (a':=?_) #[true,true,true,true,true,true,true,true,true,true,true,true,true,true,true,true,true,false,false,false,false,false,false,false,false,false,false,false,false,false,false,false,false,false,false,false] rfl rfl (any_of HT_.out (by kernel_rfl)) (fun _ _ _ h=>h) (Or.inl ⟨by rfl,?_⟩) ?_ ?_
                rotate_left
                ·intro w'
                 go_simp
                 with_reducible rfl
                rotate_left
                ·simp only [Act.put,xa,xb,xc,i64_w,i32_w]
                 rfl
                refine pure_ (i:=17) (N:=some 57) (v:=?_) (a':=?_) #[true,true,true,true,true,true,true,true,true,true,true,true,true,true,true,true,true,true,false,false,false,false,false,false,false,false,false,false,false,false,false,false,false,false,false,false] rfl rfl (any_of HT_.out (by kernel_rfl)) (fun _ _ _ h=>h) (Or.inl ⟨by rfl,?_⟩) ?_ ?_
                rotate_left
                ·intro w'
                 go_simp
                 with_reducible rfl
                rotate_left
                ·simp only [Act.put,xa,xb,xc,i64_w,i32_w]
                 rfl
                refine pure_ (i:=18) (N:=some 58) (v:=undef) (a':=?_) #[true,true,true,true,true,true,true,true,true,true,true,true,true,true,true,true,true,true,true,false,false,false,false,false,false,false,false,false,false,false,false,false,false,false,false,false] rfl rfl (any_of HT_.out (by kernel_rfl)) (fun _ _ _ h=>h) (Or.inr ⟨by rfl,rfl⟩) ?_ ?_
                rotate_left
                ·simp only [Act.put,xa,xb,xc,i64_w,i32_w]
                 rfl
                refine pure_ (i:=19) (N:=some 59) (v:=undef) (a':=?_) #[true,true,true,true,true,true,true,true,true,true,true,true,true,true,true,true,true,true,true,true,false,false,false,false,false,false,false,false,false,false,false,false,false,false,false,false] rfl rfl (any_of HT_.out (by kernel_rfl)) (fun _ _ _ h=>h) (Or.inr ⟨by rfl,rfl⟩) ?_ ?_
                rotate_left
                ·simp only [Act.put,xa,xb,xc,i64_w,i32_w]
                 rfl
                refine pure_ (i:=20) (N:=some 60) (v:=undef) (a':=?_) #[true,true,true,true,true,true,true,true,true,true,true,true,true,true,true,true,true,true,true,true,true,false,false,false,false,false,false,false,false,false,false,false,false,false,false,false] rfl rfl (any_of HT_.out (by kernel_rfl)) (fun _ _ _ h=>h) (Or.inr ⟨by rfl,rfl⟩) ?_ ?_
                rotate_left
                ·simp only [Act.put,xa,xb,xc,i64_w,i32_w]
                 rfl
                refine pure_ (i:=21) (N:=some 61) (v:=undef) (a':=?_) #[true,true,true,true,true,true,true,true,true,true,true,true,true,true,true,true,true,true,true,true,true,true,false,false,false,false,false,false,false,false,false,false,false,false,false,false] rfl rfl (any_of HT_.out (by kernel_rfl)) (fun _ _ _ h=>h) (Or.inr ⟨by rfl,rfl⟩) ?_ ?_
                rotate_left
                ·simp only [Act.put,xa,xb,xc,i64_w,i32_w]
                 rfl
                refine pure_ (i:=22) (N:=some 62) (v:=undef) (a':=?_) #[true,true,true,true,true,true,true,true,true,true,true,true,true,true,true,true,true,true,true,true,true,true,true,false,false,false,false,false,false,false,false,false,false,false,false,false] rfl rfl (any_of HT_.out (by kernel_rfl)) (fun _ _ _ h=>h) (Or.inr ⟨by rfl,rfl⟩) ?_ ?_
                rotate_left
                ·simp only [Act.put,xa,xb,xc,i64_w,i32_w]
                 rfl
                refine pure_ (i:=23) (N:=some 63) (v:=undef) (a':=?_) #[true,true,true,true,true,true,true,true,true,true,true,true,true,true,true,true,true,true,true,true,true,true,true,true,false,false,false,false,false,false,false,false,false,false,false,false] rfl rfl (any_of HT_.out (by kernel_rfl)) (fun _ _ _ h=>h) (Or.inr ⟨by rfl,rfl⟩) ?_ ?_
                rotate_left
                ·simp only [Act.put,xa,xb,xc,i64_w,i32_w]
                 rfl
                refine pure_ (i:=24) (N:=some 64) (v:=undef) (a':=?_) #[true,true,true,true,true,true,true,true,true,true,true,true,true,true,true,true,true,true,true,true,true,true,true,true,true,false,false,false,false,false,false,false,false,false,false,false] rfl rfl (any_of HT_.out (by kernel_rfl)) (fun _ _ _ h=>h) (Or.inr ⟨by rfl,rfl⟩) ?_ ?_
                rotate_left
                ·simp only [Act.put,xa,xb,xc,i64_w,i32_w]
                 rfl
                refine pure_ (i:=25) (N:=some 65) (v:=undef) (a':=?_) #[true,true,true,true,true,true,true,true,true,true,true,true,true,true,true,true,true,true,true,true,true,true,true,true,true,true,false,false,false,false,false,false,false,false,false,false] rfl rfl (any_of HT_.out (by kernel_rfl)) (fun _ _ _ h=>h) (Or.inr ⟨by rfl,rfl⟩) ?_ ?_
                rotate_left
                ·simp only [Act.put,xa,xb,xc,i64_w,i32_w]
                 rfl
                refine pure_ (i:=26) (N:=some 66) (v:=undef) (a':=?_) #[true,true,true,true,true,true,true,true,true,true,true,true,true,true,true,true,true,true,true,true,true,true,true,true,true,true,true,false,false,false,false,false,false,false,false,false] rfl rfl (any_of HT_.out (by kernel_rfl)) (fun _ _ _ h=>h) (Or.inr ⟨by rfl,rfl⟩) ?_ ?_
                rotate_left
                ·simp only [Act.put,xa,xb,xc,i64_w,i32_w]
                 rfl
                refine pure_ (i:=27) (N:=some 67) (v:=undef) (a':=?_) #[true,true,true,true,true,true,true,true,true,true,true,true,true,true,true,true,true,true,true,true,true,true,true,true,true,true,true,true,false,false,false,false,false,false,false,false] rfl rfl (any_of HT_.out (by kernel_rfl)) (fun _ _ _ h=>h) (Or.inr ⟨by rfl,rfl⟩) ?_ ?_
                rotate_left
                ·simp only [Act.put,xa,xb,xc,i64_w,i32_w]
                 rfl
                refine pure_ (i:=28) (N:=some 68) (v:=undef) (a':=?_) #[true,true,true,true,true,true,true,true,true,true,true,true,true,true,true,true,true,true,true,true,true,true,true,true,true,true,true,true,true,false,false,false,false,false,false,false] rfl rfl (any_of HT_.out (by kernel_rfl)) (fun _ _ _ h=>h) (Or.inr ⟨by rfl,rfl⟩) ?_ ?_
                rotate_left
                ·simp only [Act.put,xa,xb,xc,i64_w,i32_w]
                 rfl
                refine pure_ (i:=29) (N:=some 69) (v:=undef) (a':=?_) #[true,true,true,true,true,true,true,true,true,true,true,true,true,true,true,true,true,true,true,true,true,true,true,true,true,true,true,true,true,true,false,false,false,false,false,false] rfl rfl (any_of HT_.out (by kernel_rfl)) (fun _ _ _ h=>h) (Or.inr ⟨by rfl,rfl⟩) ?_ ?_
                rotate_left
                ·simp only [Act.put,xa,xb,xc,i64_w,i32_w]
                 rfl
                refine pure_ (i:=30) (N:=some 70) (v:=undef) (a':=?_) #[true,true,true,true,true,true,true,true,true,true,true,true,true,true,true,true,true,true,true,true,true,true,true,true,true,true,true,true,true,true,true,false,false,false,false,false] rfl rfl (any_of HT_.out (by kernel_rfl)) (fun _ _ _ h=>h) (Or.inr ⟨by rfl,rfl⟩) ?_ ?_
                rotate_left
                ·simp only [Act.put,xa,xb,xc,i64_w,i32_w]
                 rfl
                refine pure_ (i:=31) (N:=some 71) (v:=undef) (a':=?_) #[true,true,true,true,true,true,true,true,true,true,true,true,true,true,true,true,true,true,true,true,true,true,true,true,true,true,true,true,true,true,true,true,false,false,false,false] rfl rfl (any_of HT_.out (by kernel_rfl)) (fun _ _ _ h=>h) (Or.inr ⟨by rfl,rfl⟩) ?_ ?_
                rotate_left
                ·simp only [Act.put,xa,xb,xc,i64_w,i32_w]
                 rfl
                refine pure_ (i:=32) (N:=some 72) (v:=undef) (a':=?_) #[true,true,true,true,true,true,true,true,true,true,true,true,true,true,true,true,true,true,true,true,true,true,true,true,true,true,true,true,true,true,true,true,true,false,false,false] rfl rfl (any_of HT_.out (by kernel_rfl)) (fun _ _ _ h=>h) (Or.inr ⟨by rfl,rfl⟩) ?_ ?_
                rotate_left
                ·simp only [Act.put,xa,xb,xc,i64_w,i32_w]
                 rfl
                refine pure_ (i:=33) (N:=some 73) (v:=undef) (a':=?_) #[true,true,true,true,true,true,true,true,true,true,true,true,true,true,true,true,true,true,true,true,true,true,true,true,true,true,true,true,true,true,true,true,true,true,false,false] rfl rfl (any_of HT_.out (by kernel_rfl)) (fun _ _ _ h=>h) (Or.inr ⟨by rfl,rfl⟩) ?_ ?_
                rotate_left
                ·simp only [Act.put,xa,xb,xc,i64_w,i32_w]
                 rfl
                refine pure_ (i:=34) (N:=some 74) (v:=undef) (a':=?_) #[true,true,true,true,true,true,true,true,true,true,true,true,true,true,true,true,true,true,true,true,true,true,true,true,true,true,true,true,true,true,true,true,true,true,true,false] rfl rfl (any_of HT_.out (by kernel_rfl)) (fun _ _ _ h=>h) (Or.inr ⟨by rfl,rfl⟩) ?_ ?_
                rotate_left
                ·simp only [Act.put,xa,xb,xc,i64_w,i32_w]
                 rfl
                refine pure_ (i:=35) (N:=some 75) (v:=?_) (a':=?_) #[true,true,true,true,true,true,true,true,true,true,true,true,true,true,true,true,true,true,true,true,true,true,true,true,true,true,true,true,true,true,true,true,true,true,true,true] rfl rfl (any_of HT_.out (by kernel_rfl)) (fun _ _ _ h=>h) (Or.inl ⟨by rfl,?_⟩) ?_ ?_
                rotate_left
                ·intro w'
                 go_simp
                 with_reducible rfl
                rotate_left
                ·simp only [Act.put,xa,xb,xc,i64_w,i32_w]
                 rfl
                refine done_ (done_of HT_.out (by kernel_rfl)) ?_
                try go_wp2
                go_ret
                exact ⟨by first|rfl|(simp [errW_none,errW_some] <;> rfl)|(simp [*,errW_none,errW_some] <;> rfl),by repeat (first|(with_reducible first|exact HB.out|apply below_alloc|apply pw_below_drewN|apply below_drew1|refine below_set ?_ GE215.out|refine below_set ?_ GE221.out)|exact HB.out)⟩
              ·rw [if_neg c23] at H
               exact absurd H (by simp)
             ·rw [if_neg c22] at H
              exact absurd H (by simp)
            ·rw [if_neg c21] at H
             have c21b0 : decide (a0_0 ≤ ((rd_T73 l0_1 (rd l1 x16_1)).f0)) = false:=decide_eq_false c21
             clear c21
             by_cases c61 : ((rd_T73 l0_1 (rd l1 x16_1)).f1) ≥ a0_0
             ·rw [if_pos c61] at H
              have c61b0 : decide (a0_0 ≤ ((rd_T73 l0_1 (rd l1 x16_1)).f1)) = true:=decide_eq_true c61
              clear c61
              by_cases c62 : 0 ≤ x16_1
              ·rw [if_pos c62] at H
               have c62b0:=eq_true c62
               have c62b1 : decide (0 ≤ x16_1) = true:=decide_eq_true c62
               clear c62
               by_cases c63 : x16_1 ≤ (l1.length : Int)
               ·rw [if_pos c63] at H
                have c63b0:=eq_true c63
                have c63b1 : decide (x16_1 ≤ (l1.length : Int)) = true:=decide_eq_true c63
                clear c63
                obtain ⟨t227,A64,H⟩:=bd H
                by_cases c65 : t227 = true
                ·subst c65
                 rw [if_pos rfl] at H
                 have H':=Aside0.mk H
                 clear H
                 have hcz66_0 : wc.cell? ⟨gb215,0,none⟩ = some (.int .i64 a0_0):=(blk_cell BK215.out 0).trans rfl
                 have hcz66_1 : wc.cell? ⟨gb215,1,none⟩ = some (.slice A0_1 l0_1.length c0_1):=(blk_cell BK215.out 1).trans rfl
                 have hcz66_2 : wc.cell? ⟨gb215,2,none⟩ = some (.slice A0_2 l0_2.length c0_2):=(blk_cell BK215.out 2).trans rfl
                 have hfz66_0:=blk_frozen BK215.out 0
                 have hfz66_1:=blk_frozen BK215.out 1
                 have hfz66_2:=blk_frozen BK215.out 2
                 have p220 : 0 ≤ ((rd l1 x16_1) : Int):=of_decide_eq_true az
                 have q220 : (rd l1 x16_1) < (l0_1.length : Int):=of_decide_eq_true az
                 obtain ⟨ad220,e220,hx220_0,hx220_1⟩:=at_T73 HR0_1.out (rd l1 x16_1) p220 q220
                 cases e220
                 replace hx220_0:=(HB.out.cell (World.block_lt_of_cell? w _ hx220_0)).trans hx220_0
                 replace hx220_1:=(HB.out.cell (World.block_lt_of_cell? w _ hx220_1)).trans hx220_1
                 replace p220:=eq_true p220
                 replace q220:=eq_true q220
                 try go_wp2_with (first|((with_reducible refine gate_dst (N:=7) rfl ?_);refine box_event ?hg (N:=7) ?hd (cs:=#[.int .i64 0,.int .i64 0]) (t:=73) ?hr ?_;(case hd=>rfl);(case hg=>rfl);(case hr=>first|(go_simp;done)|(go_simp;rfl));intro gb221 hg w67 hbox hb;have n0_:=Aside0.mk (kb BK215.out hb);have n1_:=Aside0.mk (below_step bs hb);have n2_:=Aside0.mk (hbox);have n3_:=Aside0.mk ((by rw [hg];exact (below_size bs) : w.heap.size ≤ gb221));have n4_:=Aside0.mk ((by rw [hg];exact (below_size bs) : w.heap.size ≤ gb221));have n5_:=Aside0.mk (kn hg BK215.out);have n6_:=Aside0.mk (km hg BK215.out);clear BK215 HB;have BK215:=n0_;have HB:=n1_;have BK221:=n2_;have GW221:=n3_;have GE221:=n4_;have NB215_221:=n5_;have NB221_215:=n6_;clear n0_ n1_ n2_ n3_ n4_ n5_ n6_;clear hb hbox hg;have hnb68:=NB221_215.out;have hnc68:=NB215_221.out;have hcz69_0 : w67.cell? ⟨gb221,0,none⟩ = some (.int .i64 0):=(blk_cell BK221.out 0).trans rfl;have hcz69_1 : w67.cell? ⟨gb221,1,none⟩ = some (.int .i64 0):=(blk_cell BK221.out 1).trans rfl;have hfz69_0:=blk_frozen BK221.out 0;have hfz69_1:=blk_frozen BK221.out 1))
                 have n0_ : Aside0 (((w67.setCell ⟨gb221,0,none⟩ (.int .i64 ((rd_T73 l0_1 (rd l1 x16_1)).f0))).setCell ⟨gb221,1,none⟩ (.int .i64 ((rd_T73 l0_1 (rd l1 x16_1)).f1))).heap[gb215]? = some (.cells #[.int .i64 a0_0,.slice (some ad220) l0_1.length c0_1,.slice A0_2 l0_2.length c0_2] 29 (0,0))):=⟨by (with_reducible repeat (first|refine blk_drewN ?_ _|refine blk_drew ?_|refine blk_alloc ?_ _));refine blk_far ?_ NB215_221.out _;(with_reducible repeat (first|refine blk_drewN ?_ _|refine blk_drew ?_|refine blk_alloc ?_ _));refine blk_far ?_ NB215_221.out _;(with_reducible repeat (first|refine blk_drewN ?_ _|refine blk_drew ?_|refine blk_alloc ?_ _));exact BK215.out⟩
                 have n1_ : Aside0 (((w67.setCell ⟨gb221,0,none⟩ (.int .i64 ((rd_T73 l0_1 (rd l1 x16_1)).f0))).setCell ⟨gb221,1,none⟩ (.int .i64 ((rd_T73 l0_1 (rd l1 x16_1)).f1))).heap[gb221]? = some (.cells #[.int .i64 ((rd_T73 l0_1 (rd l1 x16_1)).f0),.int .i64 ((rd_T73 l0_1 (rd l1 x16_1)).f1)] 73 (0,0))):=⟨by (with_reducible repeat (first|refine blk_drewN ?_ _|refine blk_drew ?_|refine blk_alloc ?_ _));refine blk_put (cs:=#[.int .i64 ((rd_T73 l0_1 (rd l1 x16_1)).f0),.int .i64 0]) ?_ 1 _ rfl;(with_reducible repeat (first|refine blk_drewN ?_ _|refine blk_drew ?_|refine blk_alloc ?_ _));refine blk_put (cs:=#[.int .i64 0,.int .i64 0]) ?_ 0 _ rfl;(with_reducible repeat (first|refine blk_drewN ?_ _|refine blk_drew ?_|refine blk_alloc ?_ _));exact BK221.out⟩
                 have n2_ : Aside0 (Below w.heap.size w ((w67.setCell ⟨gb221,0,none⟩ (.int .i64 ((rd_T73 l0_1 (rd l1 x16_1)).f0))).setCell ⟨gb221,1,none⟩ (.int .i64 ((rd_T73 l0_1 (rd l1 x16_1)).f1)))):=⟨by repeat (first|(with_reducible first|exact HB.out|apply below_alloc|apply pw_below_drewN|apply below_drew1|refine below_set ?_ GE215.out|refine below_set ?_ GE221.out)|exact HB.out)⟩
                 (try clear BK215)
                 (try clear BK221)
                 (try clear HB)
                 generalize ((w67.setCell ⟨gb221,0,none⟩ (.int .i64 ((rd_T73 l0_1 (rd l1 x16_1)).f0))).setCell ⟨gb221,1,none⟩ (.int .i64 ((rd_T73 l0_1 (rd l1 x16_1)).f1))) = w70 at n0_ n1_ n2_ ⊢
                 have BK215:=n0_
                 have BK221:=n1_
                 have HB:=n2_
                 clear n0_ n1_ n2_
                 have n0_:=Aside0.mk (blk_drew BK215.out)
                 have n1_:=Aside0.mk (blk_drew BK221.out)
                 have n2_:=Aside0.mk (below_drew1 HB.out)
                 clear BK215
                 clear BK221
                 clear HB
                 have BK215:=n0_
                 have BK221:=n1_
                 have HB:=n2_
                 clear n0_ n1_ n2_
                 obtain ⟨i072,hi072,_,hsz72,_⟩:=info_parts info3
                 obtain ⟨hcut72,hA72,hC72⟩:=print_take_of (P:=Try.prog) (Value.int .i64) 0 23 3 .i64 Try.underlying23 hi072 hsz72 (some ad216) c1 l1 x16_1 (of_decide_eq_true az) (of_decide_eq_true az) HC1.out
                 have HR226:=Aside0.mk (Kd.C_of_reads (h1:=fun _=>rfl) (hA72 _ (Kd.reads_of_C HR1.out)))
                 have HC226:=Aside0.mk hC72
                 clear hA72 hC72 hi072 hsz72
                 refine start_ (n:=36) (S:=fun w'=>w'.cell? ⟨gb221,0,none⟩ = some (.int .i64 ((rd_T73 l0_1 (rd l1 x16_1)).f0)) ∧ w'.cell? ⟨gb221,1,none⟩ = some (.int .i64 ((rd_T73 l0_1 (rd l1 x16_1)).f1)) ∧ w'.cell? ⟨gb215,0,none⟩ = some (.int .i64 a0_0) ∧ w'.cell? ⟨gb215,1,none⟩ = some (.slice (some ad220) l0_1.length c0_1) ∧ w'.cell? ⟨gb215,2,none⟩ = some (.slice A0_2 l0_2.length c0_2)) (ds:=[]) #[false,false,false,false,false,false,false,false,false,false,false,false,false,false,false,false,false,false,false,false,false,false,false,false,false,false,false,false,false,false,false,false,false,false,false,false] (by kernel_rfl) rfl rfl ⟨(blk_cell BK221.out 0).trans rfl,(blk_cell BK221.out 1).trans rfl,(blk_cell BK215.out 0).trans rfl,(blk_cell BK215.out 1).trans rfl,(blk_cell BK215.out 2).trans rfl⟩ (fun hHeld=>?_);refine with_tabW spec_plOrder.tab9 spec_plOrder.bits9 (fun HT_ HW_=>?_)
                 generalize w70.drew = w71 at BK215 BK221 HB HR226 hHeld ⊢
                 refine pure_ (i:=0) (N:=some 40) (v:=?_) (a':=?_) #[true,false,false,false,false,false,false,false,false,false,false,false,false,false,false,false,false,false,false,false,false,false,false,false,false,false,false,false,false,false,false,false,false,false,false,false] rfl rfl (any_of HT_.out (by kernel_rfl)) (fun _ _ _ h=>h) (Or.inl ⟨by rfl,?_⟩) ?_ ?_
                 rotate_left
                 ·intro w'
                  go_simp
                  with_reducible rfl
                 rotate_left
                 ·simp only [Act.put,xa,xb,xc,i64_w,i32_w]
                  rfl
                 refine pure_ (i:=2) (N:=some 42) (v:=?_) (a':=?_) #[true,false,true,false,false,false,false,false,false,false,false,false,false,false,false,false,false,false,false,false,false,false,false,false,false,false,false,false,false,false,false,false,false,false,false,false] rfl rfl (any_of HT_.out (by kernel_rfl)) (fun _ _ _ h=>h) (Or.inl ⟨by rfl,?_⟩) ?_ ?_
                 rotate_left
                 ·intro w'
                  go_simp
                  with_reducible rfl
                 rotate_left
                 ·simp only [Act.put,xa,xb,xc,i64_w,i32_w]
                  rfl
                 refine take_ (i:=1) (N:=some 41) (v:=?_) (a':=?_) #[true,true,true,false,false,false,false,false,false,false,false,false,false,false,false,false,false,false,false,false,false,false,false,false,false,false,false,false,false,false,false,false,false,false,false,false] rfl rfl (take_ofW HT_.out HW_.out (by kernel_rfl)) (fun _ _ _ h=>h) (Or.inl ⟨by rfl,?_⟩) hHeld ?_ ?_
                 rotate_left
                 ·rintro w' ⟨s0,s1,s2,s3,s4⟩
                  go_simp
                  with_reducible rfl
                 rotate_left
                 ·simp only [Act.put,xa,xb,xc,i64_w,i32_w]
                  rfl
                 refine take_ (i:=3) (N:=some 43) (v:=?_) (a':=?_) #[true,true,true,true,false,false,false,false,false,false,false,false,false,false,false,false,false,false,false,false,false,false,false,false,false,false,false,false,false,false,false,false,false,false,false,false] rfl rfl (take_ofW HT_.out HW_.out (by kernel_rfl)) (fun _ _ _ h=>h) (Or.inl ⟨by rfl,?_⟩) hHeld ?_ ?_
                 rotate_left
                 ·rintro w' ⟨s0,s1,s2,s3,s4⟩
                  go_simp
                  with_reducible rfl
                 rotate_left
                 ·simp only [Act.put,xa,xb,xc,i64_w,i32_w]
                  rfl
                 refine pure_ (i:=4) (N:=some 44) (v:=?_) (a':=?_) #[true,true,true,true,true,false,false,false,false,false,false,false,false,false,false,false,false,false,false,false,false,false,false,false,false,false,false,false,false,false,false,false,false,false,false,false] rfl rfl (any_of HT_.out (by kernel_rfl)) (fun _ _ _ h=>h) (Or.inl ⟨by rfl,?_⟩) ?_ ?_
                 rotate_left
                 ·intro w'
                  go_simp
                  with_reducible rfl
                 rotate_left
                 ·simp only [Act.put,xa,xb,xc,i64_w,i32_w]
                  rfl
                 refine pure_ (i:=5) (N:=some 45) (v:=?_) (a':=?_) #[true,true,true,true,true,true,false,false,false,false,false,false,false,false,false,false,false,false,false,false,false,false,false,false,false,false,false,false,false,false,false,false,false,false,false,false] rfl rfl (any_of HT_.out (by kernel_rfl)) (fun _ _ _ h=>h) (Or.inl ⟨by rfl,?_⟩) ?_ ?_
                 rotate_left
                 ·intro w'
                  go_simp
                  with_reducible rfl
                 rotate_left
                 ·simp only [Act.put,xa,xb,xc,i64_w,i32_w]
                  rfl
                 refine pure_ (i:=6) (N:=some 46) (v:=undef) (a':=?_) #[true,true,true,true,true,true,true,false,false,false,false,false,false,false,false,false,false,false,false,false,false,false,false,false,false,false,false,false,false,false,false,false,false,false,false,false] rfl rfl (any_of HT_.out (by kernel_rfl)) (fun _ _ _ h=>h) (Or.inr ⟨by rfl,rfl⟩) ?_ ?_
                 rotate_left
                 ·simp only [Act.put,xa,xb,xc,i64_w,i32_w]
                  rfl
                 refine pure_ (i:=7) (N:=some 47) (v:=undef) (a':=?_) #[true,true,true,true,true,true,true,true,false,false,false,false,false,false,false,false,false,false,false,false,false,false,false,false,false,false,false,false,false,false,false,false,false,false,false,false] rfl rfl (any_of HT_.out (by kernel_rfl)) (fun _ _ _ h=>h) (Or.inr ⟨by rfl,rfl⟩) ?_ ?_
                 rotate_left
                 ·simp only [Act.put,xa,xb,xc,i64_w,i32_w]
                  rfl
                 refine pure_ (i:=8) (N:=some 48) (v:=undef) (a':=?_) #[true,true,true,true,true,true,true,true,true,false,false,false,false,false,false,false,false,false,false,false,false,false,false,false,false,false,false,false,false,false,false,false,false,false,false,false] rfl rfl (any_of HT_.out (by kernel_rfl)) (fun _ _ _ h=>h) (Or.inr ⟨by rfl,rfl⟩) ?_ ?_
                 rotate_left
                 ·simp only [Act.put,xa,xb,xc,i64_w,i32_w]
                  rfl
                 refine pure_ (i:=9) (N:=some 49) (v:=undef) (a':=?_) #[true,true,true,true,true,true,true,true,true,true,false,false,false,false,false,false,false,false,false,false,false,false,false,false,false,false,false,false,false,false,false,false,false,false,false,false] rfl rfl (any_of HT_.out (by kernel_rfl)) (fun _ _ _ h=>h) (Or.inr ⟨by rfl,rfl⟩) ?_ ?_
                 rotate_left
                 ·simp only [Act.put,xa,xb,xc,i64_w,i32_w]
                  rfl
                 refine pure_ (i:=10) (N:=some 50) (v:=undef) (a':=?_) #[true,true,true,true,true,true,true,true,true,true,true,false,false,false,false,false,false,false,false,false,false,false,false,false,false,false,false,false,false,false,false,false,false,false,false,false] rfl rfl (any_of HT_.out (by kernel_rfl)) (fun _ _ _ h=>h) (Or.inr ⟨by rfl,rfl⟩) ?_ ?_
                 rotate_left
                 ·simp only [Act.put,xa,xb,xc,i64_w,i32_w]
                  rfl
                 refine pure_ (i:=11) (N:=some 51) (v:=undef) (a':=?_) #[true,true,true,true,true,true,true,true,true,true,true,true,false,false,false,false,false,false,false,false,false,false,false,false,false,false,false,false,false,false,false,false,false,false,false,false] rfl rfl (any_of HT_.out (by kernel_rfl)) (fun _ _ _ h=>h) (Or.inr ⟨by rfl,rfl⟩) ?_ ?_
                 rotate_left
                 ·simp only [Act.put,xa,xb,xc,i64_w,i32_w]
                  rfl
                 refine pure_ (i:=12) (N:=some 52) (v:=undef) (a':=?_) #[true,true,true,true,true,true,true,true,true,true,true,true,true,false,false,false,false,false,false,false,false,false,false,false,false,false,false,false,false,false,false,false,false,false,false,false] rfl rfl (any_of HT_.out (by kernel_rfl)) (fun _ _ _ h=>h) (Or.inr ⟨by rfl,rfl⟩) ?_ ?_
                 rotate_left
                 ·simp only [Act.put,xa,xb,xc,i64_w,i32_w]
                  rfl
                 refine pure_ (i:=13) (N:=some 53) (v:=undef) (a':=?_) #[true,true,true,true,true,true,true,true,true,true,true,true,true,true,false,false,false,false,false,false,false,false,false,false,false,false,false,false,false,false,false,false,false,false,false,false] rfl rfl (any_of HT_.out (by kernel_rfl)) (fun _ _ _ h=>h) (Or.inr ⟨by rfl,rfl⟩) ?_ ?_
                 rotate_left
                 ·simp only [Act.put,xa,xb,xc,i64_w,i32_w]
                  rfl
                 refine pure_ (i:=14) (N:=some 54) (v:=undef) (a':=?_) #[true,true,true,true,true,true,true,true,true,true,true,true,true,true,true,false,false,false,false,false,false,false,false,false,false,false,false,false,false,false,false,false,false,false,false,false] rfl rfl (any_of HT_.out (by kernel_rfl)) (fun _ _ _ h=>h) (Or.inr ⟨by rfl,rfl⟩) ?_ ?_
                 rotate_left
                 ·simp only [Act.put,xa,xb,xc,i64_w,i32_w]
                  rfl
                 refine pure_ (i:=15) (N:=some 55) (v:=undef) (a':=?_) #[true,true,true,true,true,true,true,true,true,true,true,true,true,true,true,true,false,false,false,false,false,false,false,false,false,false,false,false,false,false,false,false,false,false,false,false] rfl rfl (any_of HT_.out (by kernel_rfl)) (fun _ _ _ h=>h) (Or.inr ⟨by rfl,rfl⟩) ?_ ?_
                 rotate_left
                 ·simp only [Act.put,xa,xb,xc,i64_w,i32_w]
                  rfl
                 refine pure_ (i:=16) (N:=some 56) (v:=?_) (a':=?_) #[true,true,true,true,true,true,true,true,true,true,true,true,true,true,true,true,true,false,false,false,false,false,false,false,false,false,false,false,false,false,false,false,false,false,false,false] rfl rfl (any_of HT_.out (by kernel_rfl)) (fun _ _ _ h=>h) (Or.inl ⟨by rfl,?_⟩) ?_ ?_
                 rotate_left
                 ·intro w'
                  go_simp
                  with_reducible rfl
                 rotate_left
                 ·simp only [Act.put,xa,xb,xc,i64_w,i32_w]
                  rfl
                 refine pure_ (i:=17) (N:=some 57) (v:=?_) (a':=?_) #[true,true,true,true,true,true,true,true,true,true,true,true,true,true,true,true,true,true,false,false,false,false,false,false,false,false,false,false,false,false,false,false,false,false,false,false] rfl rfl (any_of HT_.out (by kernel_rfl)) (fun _ _ _ h=>h) (Or.inl ⟨by rfl,?_⟩) ?_ ?_
                 rotate_left
                 ·intro w'
                  go_simp
                  with_reducible rfl
                 rotate_left
                 ·simp only [Act.put,xa,xb,xc,i64_w,i32_w]
                  rfl
                 refine pure_ (i:=18) (N:=some 58) (v:=?_) (a':=?_) #[true,true,true,true,true,true,true,true,true,true,true,true,true,true,true,true,true,true,true,false,false,false,false,false,false,false,false,false,false,false,false,false,false,false,false,false] rfl rfl (any_of HT_.out (by kernel_rfl)) (fun _ _ _ h=>h) (Or.inl ⟨by rfl,?_⟩) ?_ ?_
                 rotate_left
                 ·intro w'
                  go_simp
                  with_reducible rfl
                 rotate_left
                 ·simp only [Act.put,xa,xb,xc,i64_w,i32_w]
                  rfl
                 refine pure_ (i:=20) (N:=some 60) (v:=?_) (a':=?_) #[true,true,true,true,true,true,true,true,true,true,true,true,true,true,true,true,true,true,true,false,true,false,false,false,false,false,false,false,false,false,false,false,false,false,false,false] rfl rfl (any_of HT_.out (by kernel_rfl)) (fun _ _ _ h=>h) (Or.inl ⟨by rfl,?_⟩) ?_ ?_
                 rotate_left
                 ·intro w'
                  go_simp
                  with_reducible rfl
                 rotate_left
                 ·simp only [Act.put,xa,xb,xc,i64_w,i32_w]
                  rfl
                 refine take_ (i:=19) (N:=some 59) (v:=?_) (a':=?_) #[true,true,true,true,true,true,true,true,true,true,true,true,true,true,true,true,true,true,true,true,true,false,false,false,false,false,false,false,false,false,false,false,false,false,false,false] rfl rfl (take_ofW HT_.out HW_.out (by kernel_rfl)) (fun _ _ _ h=>h) (Or.inl ⟨by rfl,?_⟩) hHeld ?_ ?_
                 rotate_left
                 ·rintro w' ⟨s0,s1,s2,s3,s4⟩
                  go_simp
                  with_reducible rfl
                 rotate_left
                 ·simp only [Act.put,xa,xb,xc,i64_w,i32_w]
                  rfl
                 refine take_ (i:=21) (N:=some 61) (v:=?_) (a':=?_) #[true,true,true,true,true,true,true,true,true,true,true,true,true,true,true,true,true,true,true,true,true,true,false,false,false,false,false,false,false,false,false,false,false,false,false,false] rfl rfl (take_ofW HT_.out HW_.out (by kernel_rfl)) (fun _ _ _ h=>h) (Or.inl ⟨by rfl,?_⟩) hHeld ?_ ?_
                 rotate_left
                 ·rintro w' ⟨s0,s1,s2,s3,s4⟩
                  go_simp
                  with_reducible rfl
                 rotate_left
                 ·simp only [Act.put,xa,xb,xc,i64_w,i32_w]
                  rfl
                 refine pure_ (i:=22) (N:=some 62) (v:=?_) (a':=?_) #[true,true,true,true,true,true,true,true,true,true,true,true,true,true,true,true,true,true,true,true,true,true,true,false,false,false,false,false,false,false,false,false,false,false,false,false] rfl rfl (any_of HT_.out (by kernel_rfl)) (fun _ _ _ h=>h) (Or.inl ⟨by rfl,?_⟩) ?_ ?_
                 rotate_left
                 ·intro w'
                  go_simp
                  with_reducible rfl
                 rotate_left
                 ·simp only [Act.put,xa,xb,xc,i64_w,i32_w]
                  rfl
                 refine pure_ (i:=23) (N:=some 63) (v:=?_) (a':=?_) #[true,true,true,true,true,true,true,true,true,true,true,true,true,true,true,true,true,true,true,true,true,true,true,true,false,false,false,false,false,false,false,false,false,false,false,false] rfl rfl (any_of HT_.out (by kernel_rfl)) (fun _ _ _ h=>h) (Or.inl ⟨by rfl,?_⟩) ?_ ?_
                 rotate_left
                 ·intro w'
                  go_simp
                  with_reducible rfl
                 rotate_left
                 ·simp only [Act.put,xa,xb,xc,i64_w,i32_w]
                  rfl
                 refine pure_ (i:=24) (N:=some 64) (v:=?_) (a':=?_) #[true,true,true,true,true,true,true,true,true,true,true,true,true,true,true,true,true,true,true,true,true,true,true,true,true,false,false,false,false,false,false,false,false,false,false,false] rfl rfl (any_of HT_.out (by kernel_rfl)) (fun _ _ _ h=>h) (Or.inl ⟨by rfl,?_⟩) ?_ ?_
                 rotate_left
                 ·intro w'
                  go_simp
                  with_reducible rfl
                 rotate_left
                 ·simp only [Act.put,xa,xb,xc,i64_w,i32_w]
                  rfl
                 refine pure_ (i:=25) (N:=some 65) (v:=?_) (a':=?_) #[true,true,true,true,true,true,true,true,true,true,true,true,true,true,true,true,true,true,true,true,true,true,true,true,true,true,false,false,false,false,false,false,false,false,false,false] rfl rfl (any_of HT_.out (by kernel_rfl)) (fun _ _ _ h=>h) (Or.inl ⟨by rfl,?_⟩) ?_ ?_
                 rotate_left
                 ·intro w'
                  go_simp
                  with_reducible rfl
                 rotate_left
                 ·simp only [Act.put,xa,xb,xc,i64_w,i32_w]
                  rfl
                 refine pure_ (i:=26) (N:=some 66) (v:=?_) (a':=?_) #[true,true,true,true,true,true,true,true,true,true,true,true,true,true,true,true,true,true,true,true,true,true,true,true,true,true,true,false,false,false,false,false,false,false,false,false] rfl rfl (any_of HT_.out (by kernel_rfl)) (fun _ _ _ h=>h) (Or.inl ⟨by rfl,?_⟩) ?_ ?_
                 rotate_left
                 ·intro w'
                  go_simp
                  with_reducible rfl
                 rotate_left
                 ·simp only [Act.put,xa,xb,xc,i64_w,i32_w]
                  rfl
                 refine pure_ (i:=27) (N:=some 67) (v:=?_) (a':=?_) #[true,true,true,true,true,true,true,true,true,true,true,true,true,true,true,true,true,true,true,true,true,true,true,true,true,true,true,true,false,false,false,false,false,false,false,false] rfl rfl (any_of HT_.out (by kernel_rfl)) (fun _ _ _ h=>h) (Or.inl ⟨by rfl,?_⟩) ?_ ?_
                 rotate_left
                 ·intro w'
                  go_simp
                  with_reducible rfl
                 rotate_left
                 ·simp only [Act.put,xa,xb,xc,i64_w,i32_w]
                  rfl
                 refine pure_ (i:=29) (N:=some 69) (v:=?_) (a':=?_) #[true,true,true,true,true,true,true,true,true,true,true,true,true,true,true,true,true,true,true,true,true,true,true,true,true,true,true,true,false,true,false,false,false,false,false,false] rfl rfl (any_of HT_.out (by kernel_rfl)) (fun _ _ _ h=>h) (Or.inl ⟨by rfl,?_⟩) ?_ ?_
                 rotate_left
                 ·intro w'
                  go_simp
                  with_reducible rfl
                 rotate_left
                 ·simp only [Act.put,xa,xb,xc,i64_w,i32_w]
                  rfl
                 refine take_ (i:=28) (N:=some 68) (v:=?_) (a':=?_) #[true,true,true,true,true,true,true,true,true,true,true,true,true,true,true,true,true,true,true,true,true,true,true,true,true,true,true,true,true,true,false,false,false,false,false,false] rfl rfl (take_ofW HT_.out HW_.out (by kernel_rfl)) (fun _ _ _ h=>h) (Or.inl ⟨by rfl,?_⟩) hHeld ?_ ?_
                 rotate_left
                 ·rintro w' ⟨s0,s1,s2,s3,s4⟩
                  go_simp
                  with_reducible rfl
                 rotate_left
                 ·simp only [Act.put,xa,xb,xc,i64_w,i32_w]
                  rfl
                 refine take_ (i:=30) (N:=some 70) (v:=?_) (a':=?_) #[true,true,true,true,true,true,true,true,true,true,true,true,true,true,true,true,true,true,true,true,true,true,true,true,true,true,true,true,true,true,true,false,false,false,false,false] rfl rfl (take_ofW HT_.out HW_.out (by kernel_rfl)) (fun _ _ _ h=>h) (Or.inl ⟨by rfl,?_⟩) hHeld ?_ ?_
                 rotate_left
                 ·rintro w' ⟨s0,s1,s2,s3,s4⟩
                  go_simp
                  with_reducible rfl
                 rotate_left
                 ·simp only [Act.put,xa,xb,xc,i64_w,i32_w]
                  rfl
                 refine pure_ (i:=31) (N:=some 71) (v:=?_) (a':=?_) #[true,true,true,true,true,true,true,true,true,true,true,true,true,true,true,true,true,true,true,true,true,true,true,true,true,true,true,true,true,true,true,true,false,false,false,false] rfl rfl (any_of HT_.out (by kernel_rfl)) (fun _ _ _ h=>h) (Or.inl ⟨by rfl,?_⟩) ?_ ?_
                 rotate_left
                 ·intro w'
                  go_simp
                  with_reducible rfl
                 rotate_left
                 ·simp only [Act.put,xa,xb,xc,i64_w,i32_w]
                  rfl
                 refine one_ (i:=32) (N:=some 72) #[true,true,true,true,true,true,true,true,true,true,true,true,true,true,true,true,true,true,true,true,true,true,true,true,true,true,true,true,true,true,true,true,true,false,false,false] rfl rfl (one_of HT_.out (by kernel_rfl)) (by decide) (fun K hK=>?_)
                 refine goes_ Try.func98 (by kernel_rfl) rfl #[.slice (some ad216) (l1.take (x16_1 : Int).toNat).length c1,.int .i64 (wrap64 (((rd_T73 l0_1 (rd l1 x16_1)).f1) - a0_0))] (by rfl) rfl rfl (by (try simp only [List.map_toArray,List.map_cons,List.map_nil]);first|done|(rw [show (l1.take (x16_1 : Int).toNat).length = x16_1.toNat from (by rw [List.length_take];have h_ : (x16_1 : Int) ≤ (l1.length : Int):=of_decide_eq_true az;omega)] <;> rfl)|rfl|(simp only [List.length_drop,List.length_take];rfl)) ?_
                 with_reducible refine (spec_l1Has.calls kj8 _ _ (l1.take (x16_1 : Int).toNat) (wrap64 (((rd_T73 l0_1 (rd l1 x16_1)).f1) - a0_0)) true _ ?side1 ?side2 A64.out).mono ?_
                 (case side1=>exact cz (Kd.C_below HR226.out HB.out))
                 (case side2=>exact HC226.out)
                 rintro e w' ⟨rfl,⟨nd,rfl⟩⟩
                 refine ⟨_,rfl,?_⟩
                 refine hK.out _ _ ⟨(blk_cell BK221.out 0).trans rfl,(blk_cell BK221.out 1).trans rfl,(blk_cell BK215.out 0).trans rfl,(blk_cell BK215.out 1).trans rfl,(blk_cell BK215.out 2).trans rfl⟩ (fun hHeld=>?_)
                 clear hK K
                 refine norm_ (a':=?_) ?_ ?_
                 rotate_left
                 ·show Act.put _ (some 72) _ = _
                  simp only [Act.put,xa,xb,xc,i64_w,i32_w]
                  rfl
                 refine pure_ (i:=33) (N:=some 73) (v:=?_) (a':=?_) #[true,true,true,true,true,true,true,true,true,true,true,true,true,true,true,true,true,true,true,true,true,true,true,true,true,true,true,true,true,true,true,true,true,true,false,false] rfl rfl (any_of HT_.out (by kernel_rfl)) (fun _ _ _ h=>h) (Or.inl ⟨by rfl,?_⟩) ?_ ?_
                 rotate_left
                 ·intro w'
                  go_simp
                  with_reducible rfl
                 rotate_left
                 ·simp only [Act.put,xa,xb,xc,i64_w,i32_w]
                  rfl
                 refine pure_ (i:=34) (N:=some 74) (v:=?_) (a':=?_) #[true,true,true,true,true,true,true,true,true,true,true,true,true,true,true,true,true,true,true,true,true,true,true,true,true,true,true,true,true,true,true,true,true,true,true,false] rfl rfl (any_of HT_.out (by kernel_rfl)) (fun _ _ _ h=>h) (Or.inl ⟨by rfl,?_⟩) ?_ ?_
                 rotate_left
                 ·intro w'
                  go_simp
                  with_reducible rfl
                 rotate_left
                 ·simp only [Act.put,xa,xb,xc,i64_w,i32_w]
                  rfl
                 refine pure_ (i:=35) (N:=some 75) (v:=?_) (a':=?_) #[true,true,true,true,true,true,true,true,true,true,true,true,true,true,true,true,true,true,true,true,true,true,true,true,true,true,true,true,true,true,true,true,true,true,true,true] rfl rfl (any_of HT_.out (by kernel_rfl)) (fun _ _ _ h=>h) (Or.inl ⟨by rfl,?_⟩) ?_ ?_
                 rotate_left
                 ·intro w'
                  go_simp
                  with_reducible rfl
                 rotate_left
                 ·simp only [Act.put,xa,xb,xc,i64_w,i32_w]
                  rfl
                 refine done_ (done_of HT_.out (by kernel_rfl)) ?_
                 try go_wp2
                 go_roundg kj8
                 case measure=>have:=HK1.out;have:=HJ8.out;omega
                 case rel=>exact ⟨(wrap64 (x16_1 + 1)),fz,H',⟨by have:=HK1.out;have:=HJ8.out;omega⟩,⟨by (with_reducible repeat (first|refine blk_drewN ?_ _|refine blk_drew ?_|refine blk_alloc ?_ _));exact BK215.out⟩,⟨by repeat (first|(with_reducible first|exact HB.out|apply below_alloc|apply pw_below_drewN|apply below_drew1|refine below_set ?_ GE215.out|refine below_set ?_ GE221.out)|exact HB.out)⟩⟩
                ·replace c65:=Bool.eq_false_iff.mpr c65
                 subst c65
                 rw [if_neg (show ¬ (false = true) by decide)] at H
                 obtain rfl:=Option.some.inj H
                 have hcz73_0 : wc.cell? ⟨gb215,0,none⟩ = some (.int .i64 a0_0):=(blk_cell BK215.out 0).trans rfl
                 have hcz73_1 : wc.cell? ⟨gb215,1,none⟩ = some (.slice A0_1 l0_1.length c0_1):=(blk_cell BK215.out 1).trans rfl
                 have hcz73_2 : wc.cell? ⟨gb215,2,none⟩ = some (.slice A0_2 l0_2.length c0_2):=(blk_cell BK215.out 2).trans rfl
                 have hfz73_0:=blk_frozen BK215.out 0
                 have hfz73_1:=blk_frozen BK215.out 1
                 have hfz73_2:=blk_frozen BK215.out 2
                 have p220 : 0 ≤ ((rd l1 x16_1) : Int):=of_decide_eq_true az
                 have q220 : (rd l1 x16_1) < (l0_1.length : Int):=of_decide_eq_true az
                 obtain ⟨ad220,e220,hx220_0,hx220_1⟩:=at_T73 HR0_1.out (rd l1 x16_1) p220 q220
                 cases e220
                 replace hx220_0:=(HB.out.cell (World.block_lt_of_cell? w _ hx220_0)).trans hx220_0
                 replace hx220_1:=(HB.out.cell (World.block_lt_of_cell? w _ hx220_1)).trans hx220_1
                 replace p220:=eq_true p220
                 replace q220:=eq_true q220
                 try go_wp2_with (first|((with_reducible refine gate_dst (N:=7) rfl ?_);refine box_event ?hg (N:=7) ?hd (cs:=#[.int .i64 0,.int .i64 0]) (t:=73) ?hr ?_;(case hd=>rfl);(case hg=>rfl);(case hr=>first|(go_simp;done)|(go_simp;rfl));intro gb221 hg w74 hbox hb;have n0_:=Aside0.mk (kb BK215.out hb);have n1_:=Aside0.mk (below_step bs hb);have n2_:=Aside0.mk (hbox);have n3_:=Aside0.mk ((by rw [hg];exact (below_size bs) : w.heap.size ≤ gb221));have n4_:=Aside0.mk ((by rw [hg];exact (below_size bs) : w.heap.size ≤ gb221));have n5_:=Aside0.mk (kn hg BK215.out);have n6_:=Aside0.mk (km hg BK215.out);clear BK215 HB;have BK215:=n0_;have HB:=n1_;have BK221:=n2_;have GW221:=n3_;have GE221:=n4_;have NB215_221:=n5_;have NB221_215:=n6_;clear n0_ n1_ n2_ n3_ n4_ n5_ n6_;clear hb hbox hg;have hnb75:=NB221_215.out;have hnc75:=NB215_221.out;have hcz76_0 : w74.cell? ⟨gb221,0,none⟩ = some (.int .i64 0):=(blk_cell BK221.out 0).trans rfl;have hcz76_1 : w74.cell? ⟨gb221,1,none⟩ = some (.int .i64 0):=(blk_cell BK221.out 1).trans rfl;have hfz76_0:=blk_frozen BK221.out 0;have hfz76_1:=blk_frozen BK221.out 1))
                 have n0_ : Aside0 (((w74.setCell ⟨gb221,0,none⟩ (.int .i64 ((rd_T73 l0_1 (rd l1 x16_1)).f0))).setCell ⟨gb221,1,none⟩ (.int .i64 ((rd_T73 l0_1 (rd l1 x16_1)).f1))).heap[gb215]? = some (.cells #[.int .i64 a0_0,.slice (some ad220) l0_1.length c0_1,.slice A0_2 l0_2.length c0_2] 29 (0,0))):=⟨by (with_reducible repeat (first|refine blk_drewN ?_ _|refine blk_drew ?_|refine blk_alloc ?_ _));refine blk_far ?_ NB215_221.out _;(with_reducible repeat (first|refine blk_drewN ?_ _|refine blk_drew ?_|refine blk_alloc ?_ _));refine blk_far ?_ NB215_221.out _;(with_reducible repeat (first|refine blk_drewN ?_ _|refine blk_drew ?_|refine blk_alloc ?_ _));exact BK215.out⟩
                 have n1_ : Aside0 (((w74.setCell ⟨gb221,0,none⟩ (.int .i64 ((rd_T73 l0_1 (rd l1 x16_1)).f0))).setCell ⟨gb221,1,none⟩ (.int .i64 ((rd_T73 l0_1 (rd l1 x16_1)).f1))).heap[gb221]? = some (.cells #[.int .i64 ((rd_T73 l0_1 (rd l1 x16_1)).f0),.int .i64 ((rd_T73 l0_1 (rd l1 x16_1)).f1)] 73 (0,0))):=⟨by (with_reducible repeat (first|refine blk_drewN ?_ _|refine blk_drew ?_|refine blk_alloc ?_ _));refine blk_put (cs:=#[.int .i64 ((rd_T73 l0_1 (rd l1 x16_1)).f0),.int .i64 0]) ?_ 1 _ rfl;(with_reducible repeat (first|refine blk_drewN ?_ _|refine blk_drew ?_|refine blk_alloc ?_ _));refine blk_put (cs:=#[.int .i64 0,.int .i64 0]) ?_ 0 _ rfl;(with_reducible repeat (first|refine blk_drewN ?_ _|refine blk_drew ?_|refine blk_alloc ?_ _));exact BK221.out⟩
                 have n2_ : Aside0 (Below w.heap.size w ((w74.setCell ⟨gb221,0,none⟩ (.int .i64 ((rd_T73 l0_1 (rd l1 x16_1)).f0))).setCell ⟨gb221,1,none⟩ (.int .i64 ((rd_T73 l0_1 (rd l1 x16_1)).f1)))):=⟨by repeat (first|(with_reducible first|exact HB.out|apply below_alloc|apply pw_below_drewN|apply below_drew1|refine below_set ?_ GE215.out|refine below_set ?_ GE221.out)|exact HB.out)⟩
                 (try clear BK215)
                 (try clear BK221)
                 (try clear HB)
                 generalize ((w74.setCell ⟨gb221,0,none⟩ (.int .i64 ((rd_T73 l0_1 (rd l1 x16_1)).f0))).setCell ⟨gb221,1,none⟩ (.int .i64 ((rd_T73 l0_1 (rd l1 x16_1)).f1))) = w77 at n0_ n1_ n2_ ⊢
                 have BK215:=n0_
                 have BK221:=n1_
                 have HB:=n2_
                 clear n0_ n1_ n2_
                 have n0_:=Aside0.mk (blk_drew BK215.out)
                 have n1_:=Aside0.mk (blk_drew BK221.out)
                 have n2_:=Aside0.mk (below_drew1 HB.out)
                 clear BK215
                 clear BK221
                 clear HB
                 have BK215:=n0_
                 have BK221:=n1_
                 have HB:=n2_
                 clear n0_ n1_ n2_
                 obtain ⟨i079,hi079,_,hsz79,_⟩:=info_parts info3
                 obtain ⟨hcut79,hA79,hC79⟩:=print_take_of (P:=Try.prog) (Value.int .i64) 0 23 3 .i64 Try.underlying23 hi079 hsz79 (some ad216) c1 l1 x16_1 (of_decide_eq_true az) (of_decide_eq_true az) HC1.out
                 have HR226:=Aside0.mk (Kd.C_of_reads (h1:=fun _=>rfl) (hA79 _ (Kd.reads_of_C HR1.out)))
                 have HC226:=Aside0.mk hC79
                 clear hA79 hC79 hi079 hsz79
                 refine start_ (n:=36) (S:=fun w'=>w'.cell? ⟨gb221,0,none⟩ = some (.int .i64 ((rd_T73 l0_1 (rd l1 x16_1)).f0)) ∧ w'.cell? ⟨gb221,1,none⟩ = some (.int .i64 ((rd_T73 l0_1 (rd l1 x16_1)).f1)) ∧ w'.cell? ⟨gb215,0,none⟩ = some (.int .i64 a0_0) ∧ w'.cell? ⟨gb215,1,none⟩ = some (.slice (some ad220) l0_1.length c0_1) ∧ w'.cell? ⟨gb215,2,none⟩ = some (.slice A0_2 l0_2.length c0_2)) (ds:=[]) #[false,false,false,false,false,false,false,false,false,false,false,false,false,false,false,false,false,false,false,false,false,false,false,false,false,false,false,false,false,false,false,false,false,false,false,false] (by kernel_rfl) rfl rfl ⟨(blk_cell BK221.out 0).trans rfl,(blk_cell BK221.out 1).trans rfl,(blk_cell BK215.out 0).trans rfl,(blk_cell BK215.out 1).trans rfl,(blk_cell BK215.out 2).trans rfl⟩ (fun hHeld=>?_);refine with_tabW spec_plOrder.tab9 spec_plOrder.bits9 (fun HT_ HW_=>?_)
                 generalize w77.drew = w78 at BK215 BK221 HB HR226 hHeld ⊢
                 refine pure_ (i:=0) (N:=some 40) (v:=?_) (a':=?_) #[true,false,false,false,false,false,false,false,false,false,false,false,false,false,false,false,false,false,false,false,false,false,false,false,false,false,false,false,false,false,false,false,false,false,false,false] rfl rfl (any_of HT_.out (by kernel_rfl)) (fun _ _ _ h=>h) (Or.inl ⟨by rfl,?_⟩) ?_ ?_
                 rotate_left
                 ·intro w'
                  go_simp
                  with_reducible rfl
                 rotate_left
                 ·simp only [Act.put,xa,xb,xc,i64_w,i32_w]
                  rfl
                 refine pure_ (i:=2) (N:=some 42) (v:=?_) (a':=?_) #[true,false,true,false,false,false,false,false,false,false,false,false,false,false,false,false,false,false,false,false,false,false,false,false,false,false,false,false,false,false,false,false,false,false,false,false] rfl rfl (any_of HT_.out (by kernel_rfl)) (fun _ _ _ h=>h) (Or.inl ⟨by rfl,?_⟩) ?_ ?_
                 rotate_left
                 ·intro w'
                  go_simp
                  with_reducible rfl
                 rotate_left
                 ·simp only [Act.put,xa,xb,xc,i64_w,i32_w]
                  rfl
                 refine take_ (i:=1) (N:=some 41) (v:=?_) (a':=?_) #[true,true,true,false,false,false,false,false,false,false,false,false,false,false,false,false,false,false,false,false,false,false,false,false,false,false,false,false,false,false,false,false,false,false,false,false] rfl rfl (take_ofW HT_.out HW_.out (by kernel_rfl)) (fun _ _ _ h=>h) (Or.inl ⟨by rfl,?_⟩) hHeld ?_ ?_
                 rotate_left
                 ·rintro w' ⟨s0,s1,s2,s3,s4⟩
                  go_simp
                  with_reducible rfl
                 rotate_left
                 ·simp only [Act.put,xa,xb,xc,i64_w,i32_w]
                  rfl
                 refine take_ (i:=3) (N:=some 43) (v:=?_) (a':=?_) #[true,true,true,true,false,false,false,false,false,false,false,false,false,false,false,false,false,false,false,false,false,false,false,false,false,false,false,false,false,false,false,false,false,false,false,false] rfl rfl (take_ofW HT_.out HW_.out (by kernel_rfl)) (fun _ _ _ h=>h) (Or.inl ⟨by rfl,?_⟩) hHeld ?_ ?_
                 rotate_left
                 ·rintro w' ⟨s0,s1,s2,s3,s4⟩
                  go_simp
                  with_reducible rfl
                 rotate_left
                 ·simp only [Act.put,xa,xb,xc,i64_w,i32_w]
                  rfl
                 refine pure_ (i:=4) (N:=some 44) (v:=?_) (a':=?_) #[true,true,true,true,true,false,false,false,false,false,false,false,false,false,false,false,false,false,false,false,false,false,false,false,false,false,false,false,false,false,false,false,false,false,false,false] rfl rfl (any_of HT_.out (by kernel_rfl)) (fun _ _ _ h=>h) (Or.inl ⟨by rfl,?_⟩) ?_ ?_
                 rotate_left
                 ·intro w'
                  go_simp
                  with_reducible rfl
                 rotate_left
                 ·simp only [Act.put,xa,xb,xc,i64_w,i32_w]
                  rfl
                 refine pure_ (i:=5) (N:=some 45) (v:=?_) (a':=?_) #[true,true,true,true,true,true,false,false,false,false,false,false,false,false,false,false,false,false,false,false,false,false,false,false,false,false,false,false,false,false,false,false,false,false,false,false] rfl rfl (any_of HT_.out (by kernel_rfl)) (fun _ _ _ h=>h) (Or.inl ⟨by rfl,?_⟩) ?_ ?_
                 rotate_left
                 ·intro w'
                  go_simp
                  with_reducible rfl
                 rotate_left
                 ·simp only [Act.put,xa,xb,xc,i64_w,i32_w]
                  rfl
                 refine pure_ (i:=6) (N:=some 46) (v:=undef) (a':=?_) #[true,true,true,true,true,true,true,false,false,false,false,false,false,false,false,false,false,false,false,false,false,false,false,false,false,false,false,false,false,false,false,false,false,false,false,false] rfl rfl (any_of HT_.out (by kernel_rfl)) (fun _ _ _ h=>h) (Or.inr ⟨by rfl,rfl⟩) ?_ ?_
                 rotate_left
                 ·simp only [Act.put,xa,xb,xc,i64_w,i32_w]
                  rfl
                 refine pure_ (i:=7) (N:=some 47) (v:=undef) (a':=?_) #[true,true,true,true,true,true,true,true,false,false,false,false,false,false,false,false,false,false,false,false,false,false,false,false,false,false,false,false,false,false,false,false,false,false,false,false] rfl rfl (any_of HT_.out (by kernel_rfl)) (fun _ _ _ h=>h) (Or.inr ⟨by rfl,rfl⟩) ?_ ?_
                 rotate_left
                 ·simp only [Act.put,xa,xb,xc,i64_w,i32_w]
                  rfl
                 refine pure_ (i:=8) (N:=some 48) (v:=undef) (a':=?_) #[true,true,true,true,true,true,true,true,true,false,false,false,false,false,false,false,false,false,false,false,false,false,false,false,false,false,false,false,false,false,false,false,false,false,false,false] rfl rfl (any_of HT_.out (by kernel_rfl)) (fun _ _ _ h=>h) (Or.inr ⟨by rfl,rfl⟩) ?_ ?_
                 rotate_left
                 ·simp only [Act.put,xa,xb,xc,i64_w,i32_w]
                  rfl
                 refine pure_ (i:=9) (N:=some 49) (v:=undef) (a':=?_) #[true,true,true,true,true,true,true,true,true,true,false,false,false,false,false,false,false,false,false,false,false,false,false,false,false,false,false,false,false,false,false,false,false,false,false,false] rfl rfl (any_of HT_.out (by kernel_rfl)) (fun _ _ _ h=>h) (Or.inr ⟨by rfl,rfl⟩) ?_ ?_
                 rotate_left
                 ·simp only [Act.put,xa,xb,xc,i64_w,i32_w]
                  rfl
                 refine pure_ (i:=10) (N:=some 50) (v:=undef) (a':=?_) #[true,true,true,true,true,true,true,true,true,true,true,false,false,false,false,false,false,false,false,false,false,false,false,false,false,false,false,false,false,false,false,false,false,false,false,false] rfl rfl (any_of HT_.out (by kernel_rfl)) (fun _ _ _ h=>h) (Or.inr ⟨by rfl,rfl⟩) ?_ ?_
                 rotate_left
                 ·simp only [Act.put,xa,xb,xc,i64_w,i32_w]
                  rfl
                 refine pure_ (i:=11) (N:=some 51) (v:=undef) (a':=?_) #[true,true,true,true,true,true,true,true,true,true,true,true,false,false,false,false,false,false,false,false,false,false,false,false,false,false,false,false,false,false,false,false,false,false,false,false] rfl rfl (any_of HT_.out (by kernel_rfl)) (fun _ _ _ h=>h) (Or.inr ⟨by rfl,rfl⟩) ?_ ?_
                 rotate_left
                 ·simp only [Act.put,xa,xb,xc,i64_w,i32_w]
                  rfl
                 refine pure_ (i:=12) (N:=some 52) (v:=undef) (a':=?_) #[true,true,true,true,true,true,true,true,true,true,true,true,true,false,false,false,false,false,false,false,false,false,false,false,false,false,false,false,false,false,false,false,false,false,false,false] rfl rfl (any_of HT_.out (by kernel_rfl)) (fun _ _ _ h=>h) (Or.inr ⟨by rfl,rfl⟩) ?_ ?_
                 rotate_left
                 ·simp only [Act.put,xa,xb,xc,i64_w,i32_w]
                  rfl
                 refine pure_ (i:=13) (N:=some 53) (v:=undef) (a':=?_) #[true,true,true,true,true,true,true,true,true,true,true,true,true,true,false,false,false,false,false,false,false,false,false,false,false,false,false,false,false,false,false,false,false,false,false,false] rfl rfl (any_of HT_.out (by kernel_rfl)) (fun _ _ _ h=>h) (Or.inr ⟨by rfl,rfl⟩) ?_ ?_
                 rotate_left
                 ·simp only [Act.put,xa,xb,xc,i64_w,i32_w]
                  rfl
                 refine pure_ (i:=14) (N:=some 54) (v:=undef) (a':=?_) #[true,true,true,true,true,true,true,true,true,true,true,true,true,true,true,false,false,false,false,false,false,false,false,false,false,false,false,false,false,false,false,false,false,false,false,false] rfl rfl (any_of HT_.out (by kernel_rfl)) (fun _ _ _ h=>h) (Or.inr ⟨by rfl,rfl⟩) ?_ ?_
                 rotate_left
                 ·simp only [Act.put,xa,xb,xc,i64_w,i32_w]
                  rfl
                 refine pure_ (i:=15) (N:=some 55) (v:=undef) (a':=?_) #[true,true,true,true,true,true,true,true,true,true,true,true,true,true,true,true,false,false,false,false,false,false,false,false,false,false,false,false,false,false,false,false,false,false,false,false] rfl rfl (any_of HT_.out (by kernel_rfl)) (fun _ _ _ h=>h) (Or.inr ⟨by rfl,rfl⟩) ?_ ?_
                 rotate_left
                 ·simp only [Act.put,xa,xb,xc,i64_w,i32_w]
                  rfl
                 refine pure_ (i:=16) (N:=some 56) (v:=?_) (a':=?_) #[true,true,true,true,true,true,true,true,true,true,true,true,true,true,true,true,true,false,false,false,false,false,false,false,false,false,false,false,false,false,false,false,false,false,false,false] rfl rfl (any_of HT_.out (by kernel_rfl)) (fun _ _ _ h=>h) (Or.inl ⟨by rfl,?_⟩) ?_ ?_
                 rotate_left
                 ·intro w'
                  go_simp
                  with_reducible rfl
                 rotate_left
                 ·simp only [Act.put,xa,xb,xc,i64_w,i32_w]
                  rfl
                 refine pure_ (i:=17) (N:=some 57) (v:=?_) (a':=?_) #[true,true,true,true,true,true,true,true,true,true,true,true,true,true,true,true,true,true,false,false,false,false,false,false,false,false,false,false,false,false,false,false,false,false,false,false] rfl rfl (any_of HT_.out (by kernel_rfl)) (fun _ _ _ h=>h) (Or.inl ⟨by rfl,?_⟩) ?_ ?_
                 rotate_left
                 ·intro w'
                  go_simp
                  with_reducible rfl
                 rotate_left
                 ·simp only [Act.put,xa,xb,xc,i64_w,i32_w]
                  rfl
                 refine pure_ (i:=18) (N:=some 58) (v:=?_) (a':=?_) #[true,true,true,true,true,true,true,true,true,true,true,true,true,true,true,true,true,true,true,false,false,false,false,false,false,false,false,false,false,false,false,false,false,false,false,false] rfl rfl (any_of HT_.out (by kernel_rfl)) (fun _ _ _ h=>h) (Or.inl ⟨by rfl,?_⟩) ?_ ?_
                 rotate_left
                 ·intro w'
                  go_simp
                  with_reducible rfl
                 rotate_left
                 ·simp only [Act.put,xa,xb,xc,i64_w,i32_w]
                  rfl
                 refine pure_ (i:=20) (N:=some 60) (v:=?_) (a':=?_) #[true,true,true,true,true,true,true,true,true,true,true,true,true,true,true,true,true,true,true,false,true,false,false,false,false,false,false,false,false,false,false,false,false,false,false,false] rfl rfl (any_of HT_.out (by kernel_rfl)) (fun _ _ _ h=>h) (Or.inl ⟨by rfl,?_⟩) ?_ ?_
                 rotate_left
                 ·intro w'
                  go_simp
                  with_reducible rfl
                 rotate_left
                 ·simp only [Act.put,xa,xb,xc,i64_w,i32_w]
                  rfl
                 refine take_ (i:=19) (N:=some 59) (v:=?_) (a':=?_) #[true,true,true,true,true,true,true,true,true,true,true,true,true,true,true,true,true,true,true,true,true,false,false,false,false,false,false,false,false,false,false,false,false,false,false,false] rfl rfl (take_ofW HT_.out HW_.out (by kernel_rfl)) (fun _ _ _ h=>h) (Or.inl ⟨by rfl,?_⟩) hHeld ?_ ?_
                 rotate_left
                 ·rintro w' ⟨s0,s1,s2,s3,s4⟩
                  go_simp
                  with_reducible rfl
                 rotate_left
                 ·simp only [Act.put,xa,xb,xc,i64_w,i32_w]
                  rfl
                 refine take_ (i:=21) (N:=some 61) (v:=?_) (a':=?_) #[true,true,true,true,true,true,true,true,true,true,true,true,true,true,true,true,true,true,true,true,true,true,false,false,false,false,false,false,false,false,false,false,false,false,false,false] rfl rfl (take_ofW HT_.out HW_.out (by kernel_rfl)) (fun _ _ _ h=>h) (Or.inl ⟨by rfl,?_⟩) hHeld ?_ ?_
                 rotate_left
                 ·rintro w' ⟨s0,s1,s2,s3,s4⟩
                  go_simp
                  with_reducible rfl
                 rotate_left
                 ·simp only [Act.put,xa,xb,xc,i64_w,i32_w]
                  rfl
                 refine pure_ (i:=22) (N:=some 62) (v:=?_) (a':=?_) #[true,true,true,true,true,true,true,true,true,true,true,true,true,true,true,true,true,true,true,true,true,true,true,false,false,false,false,false,false,false,false,false,false,false,false,false] rfl rfl (any_of HT_.out (by kernel_rfl)) (fun _ _ _ h=>h) (Or.inl ⟨by rfl,?_⟩) ?_ ?_
                 rotate_left
                 ·intro w'
                  go_simp
                  with_reducible rfl
                 rotate_left
                 ·simp only [Act.put,xa,xb,xc,i64_w,i32_w]
                  rfl
                 refine pure_ (i:=23) (N:=some 63) (v:=?_) (a':=?_) #[true,true,true,true,true,true,true,true,true,true,true,true,true,true,true,true,true,true,true,true,true,true,true,true,false,false,false,false,false,false,false,false,false,false,false,false] rfl rfl (any_of HT_.out (by kernel_rfl)) (fun _ _ _ h=>h) (Or.inl ⟨by rfl,?_⟩) ?_ ?_
                 rotate_left
                 ·intro w'
                  go_simp
                  with_reducible rfl
                 rotate_left
                 ·simp only [Act.put,xa,xb,xc,i64_w,i32_w]
                  rfl
                 refine pure_ (i:=24) (N:=some 64) (v:=?_) (a':=?_) #[true,true,true,true,true,true,true,true,true,true,true,true,true,true,true,true,true,true,true,true,true,true,true,true,true,false,false,false,false,false,false,false,false,false,false,false] rfl rfl (any_of HT_.out (by kernel_rfl)) (fun _ _ _ h=>h) (Or.inl ⟨by rfl,?_⟩) ?_ ?_
                 rotate_left
                 ·intro w'
                  go_simp
                  with_reducible rfl
                 rotate_left
                 ·simp only [Act.put,xa,xb,xc,i64_w,i32_w]
                  rfl
                 refine pure_ (i:=25) (N:=some 65) (v:=?_) (a':=?_) #[true,true,true,true,true,true,true,true,true,true,true,true,true,true,true,true,true,true,true,true,true,true,true,true,true,true,false,false,false,false,false,false,false,false,false,false] rfl rfl (any_of HT_.out (by kernel_rfl)) (fun _ _ _ h=>h) (Or.inl ⟨by rfl,?_⟩) ?_ ?_
                 rotate_left
                 ·intro w'
                  go_simp
                  with_reducible rfl
                 rotate_left
                 ·simp only [Act.put,xa,xb,xc,i64_w,i32_w]
                  rfl
                 refine pure_ (i:=26) (N:=some 66) (v:=?_) (a':=?_) #[true,true,true,true,true,true,true,true,true,true,true,true,true,true,true,true,true,true,true,true,true,true,true,true,true,true,true,false,false,false,false,false,false,false,false,false] rfl rfl (any_of HT_.out (by kernel_rfl)) (fun _ _ _ h=>h) (Or.inl ⟨by rfl,?_⟩) ?_ ?_
                 rotate_left
                 ·intro w'
                  go_simp
                  with_reducible rfl
                 rotate_left
                 ·simp only [Act.put,xa,xb,xc,i64_w,i32_w]
                  rfl
                 refine pure_ (i:=27) (N:=some 67) (v:=?_) (a':=?_) #[true,true,true,true,true,true,true,true,true,true,true,true,true,true,true,true,true,true,true,true,true,true,true,true,true,true,true,true,false,false,false,false,false,false,false,false] rfl rfl (any_of HT_.out (by kernel_rfl)) (fun _ _ _ h=>h) (Or.inl ⟨by rfl,?_⟩) ?_ ?_
                 rotate_left
                 ·intro w'
                  go_simp
                  with_reducible rfl
                 rotate_left
                 ·simp only [Act.put,xa,xb,xc,i64_w,i32_w]
                  rfl
                 refine pure_ (i:=29) (N:=some 69) (v:=?_) (a':=?_) #[true,true,true,true,true,true,true,true,true,true,true,true,true,true,true,true,true,true,true,true,true,true,true,true,true,true,true,true,false,true,false,false,false,false,false,false] rfl rfl (any_of HT_.out (by kernel_rfl)) (fun _ _ _ h=>h) (Or.inl ⟨by rfl,?_⟩) ?_ ?_
                 rotate_left
                 ·intro w'
                  go_simp
                  with_reducible rfl
                 rotate_left
                 ·simp only [Act.put,xa,xb,xc,i64_w,i32_w]
                  rfl
                 refine take_ (i:=28) (N:=some 68) (v:=?_) (a':=?_) #[true,true,true,true,true,true,true,true,true,true,true,true,true,true,true,true,true,true,true,true,true,true,true,true,true,true,true,true,true,true,false,false,false,false,false,false] rfl rfl (take_ofW HT_.out HW_.out (by kernel_rfl)) (fun _ _ _ h=>h) (Or.inl ⟨by rfl,?_⟩) hHeld ?_ ?_
                 rotate_left
                 ·rintro w' ⟨s0,s1,s2,s3,s4⟩
                  go_simp
                  with_reducible rfl
                 rotate_left
                 ·simp only [Act.put,xa,xb,xc,i64_w,i32_w]
                  rfl
                 refine take_ (i:=30) (N:=some 70) (v:=?_) (a':=?_) #[true,true,true,true,true,true,true,true,true,true,true,true,true,true,true,true,true,true,true,true,true,true,true,true,true,true,true,true,true,true,true,false,false,false,false,false] rfl rfl (take_ofW HT_.out HW_.out (by kernel_rfl)) (fun _ _ _ h=>h) (Or.inl ⟨by rfl,?_⟩) hHeld ?_ ?_
                 rotate_left
                 ·rintro w' ⟨s0,s1,s2,s3,s4⟩
                  go_simp
                  with_reducible rfl
                 rotate_left
                 ·simp only [Act.put,xa,xb,xc,i64_w,i32_w]
                  rfl
                 refine pure_ (i:=31) (N:=some 71) (v:=?_) (a':=?_) #[true,true,true,true,true,true,true,true,true,true,true,true,true,true,true,true,true,true,true,true,true,true,true,true,true,true,true,true,true,true,true,true,false,false,false,false] rfl rfl (any_of HT_.out (by kernel_rfl)) (fun _ _ _ h=>h) (Or.inl ⟨by rfl,?_⟩) ?_ ?_
                 rotate_left
                 ·intro w'
                  go_simp
                  with_reducible rfl
                 rotate_left
                 ·simp only [Act.put,xa,xb,xc,i64_w,i32_w]
                  rfl
                 refine one_ (i:=32) (N:=some 72) #[true,true,true,true,true,true,true,true,true,true,true,true,true,true,true,true,true,true,true,true,true,true,true,true,true,true,true,true,true,true,true,true,true,false,false,false] rfl rfl (one_of HT_.out (by kernel_rfl)) (by decide) (fun K hK=>?_)
                 refine goes_ Try.func98 (by kernel_rfl) rfl #[.slice (some ad216) (l1.take (x16_1 : Int).toNat).length c1,.int .i64 (wrap64 (((rd_T73 l0_1 (rd l1 x16_1)).f1) - a0_0))] (by rfl) rfl rfl (by (try simp only [List.map_toArray,List.map_cons,List.map_nil]);first|done|(rw [show (l1.take (x16_1 : Int).toNat).length = x16_1.toNat from (by rw [List.length_take];have h_ : (x16_1 : Int) ≤ (l1.length : Int):=of_decide_eq_true az;omega)] <;> rfl)|rfl|(simp only [List.length_drop,List.length_take];rfl)) ?_
                 with_reducible refine (spec_l1Has.calls kj8 _ _ (l1.take (x16_1 : Int).toNat) (wrap64 (((rd_T73 l0_1 (rd l1 x16_1)).f1) - a0_0)) false _ ?side1 ?side2 A64.out).mono ?_
                 (case side1=>exact cz (Kd.C_below HR226.out HB.out))
                 (case side2=>exact HC226.out)
                 rintro e w' ⟨rfl,⟨nd,rfl⟩⟩
                 refine ⟨_,rfl,?_⟩
                 refine hK.out _ _ ⟨(blk_cell BK221.out 0).trans rfl,(blk_cell BK221.out 1).trans rfl,(blk_cell BK215.out 0).trans rfl,(blk_cell BK215.out 1).trans rfl,(blk_cell BK215.out 2).trans rfl⟩ (fun hHeld=>?_)
                 clear hK K
                 refine norm_ (a':=?_) ?_ ?_
                 rotate_left
                 ·show Act.put _ (some 72) _ = _
                  simp only [Act.put,xa,xb,xc,i64_w,i32_w]
                  rfl
                 refine pure_ (i:=33) (N:=some 73) (v:=?_) (a':=?_) #[true,true,true,true,true,true,true,true,true,true,true,true,true,true,true,true,true,true,true,true,true,true,true,true,true,true,true,true,true,true,true,true,true,true,false,false] rfl rfl (any_of HT_.out (by kernel_rfl)) (fun _ _ _ h=>h) (Or.inl ⟨by rfl,?_⟩) ?_ ?_
                 rotate_left
                 ·intro w'
                  go_simp
                  with_reducible rfl
                 rotate_left
                 ·simp only [Act.put,xa,xb,xc,i64_w,i32_w]
                  rfl
                 refine pure_ (i:=34) (N:=some 74) (v:=?_) (a':=?_) #[true,true,true,true,true,true,true,true,true,true,true,true,true,true,true,true,true,true,true,true,true,true,true,true,true,true,true,true,true,true,true,true,true,true,true,false] rfl rfl (any_of HT_.out (by kernel_rfl)) (fun _ _ _ h=>h) (Or.inl ⟨by rfl,?_⟩) ?_ ?_
                 rotate_left
                 ·intro w'
                  go_simp
                  with_reducible rfl
                 rotate_left
                 ·simp only [Act.put,xa,xb,xc,i64_w,i32_w]
                  rfl
                 refine pure_ (i:=35) (N:=some 75) (v:=?_) (a':=?_) #[true,true,true,true,true,true,true,true,true,true,true,true,true,true,true,true,true,true,true,true,true,true,true,true,true,true,true,true,true,true,true,true,true,true,true,true] rfl rfl (any_of HT_.out (by kernel_rfl)) (fun _ _ _ h=>h) (Or.inl ⟨by rfl,?_⟩) ?_ ?_
                 rotate_left
                 ·intro w'
                  go_simp
                  with_reducible rfl
                 rotate_left
                 ·simp only [Act.put,xa,xb,xc,i64_w,i32_w]
                  rfl
                 refine done_ (done_of HT_.out (by kernel_rfl)) ?_
                 try go_wp2
                 go_ret
                 exact ⟨by first|rfl|(simp [errW_none,errW_some] <;> rfl)|(simp [*,errW_none,errW_some] <;> rfl),by repeat (first|(with_reducible first|exact HB.out|apply below_alloc|apply pw_below_drewN|apply below_drew1|refine below_set ?_ GE215.out|refine below_set ?_ GE221.out)|exact HB.out)⟩
               ·rw [if_neg c63] at H
                exact absurd H (by simp)
              ·rw [if_neg c62] at H
               exact absurd H (by simp)
             ·rw [if_neg c61] at H
              have c61b0 : decide (a0_0 ≤ ((rd_T73 l0_1 (rd l1 x16_1)).f1)) = false:=decide_eq_false c61
              clear c61
              have H':=Aside0.mk H
              clear H
              have hcz80_0 : wc.cell? ⟨gb215,0,none⟩ = some (.int .i64 a0_0):=(blk_cell BK215.out 0).trans rfl
              have hcz80_1 : wc.cell? ⟨gb215,1,none⟩ = some (.slice A0_1 l0_1.length c0_1):=(blk_cell BK215.out 1).trans rfl
              have hcz80_2 : wc.cell? ⟨gb215,2,none⟩ = some (.slice A0_2 l0_2.length c0_2):=(blk_cell BK215.out 2).trans rfl
              have hfz80_0:=blk_frozen BK215.out 0
              have hfz80_1:=blk_frozen BK215.out 1
              have hfz80_2:=blk_frozen BK215.out 2
              have p220 : 0 ≤ ((rd l1 x16_1) : Int):=of_decide_eq_true az
              have q220 : (rd l1 x16_1) < (l0_1.length : Int):=of_decide_eq_true az
              obtain ⟨ad220,e220,hx220_0,hx220_1⟩:=at_T73 HR0_1.out (rd l1 x16_1) p220 q220
              cases e220
              replace hx220_0:=(HB.out.cell (World.block_lt_of_cell? w _ hx220_0)).trans hx220_0
              replace hx220_1:=(HB.out.cell (World.block_lt_of_cell? w _ hx220_1)).trans hx220_1
              replace p220:=eq_true p220
              replace q220:=eq_true q220
              try go_wp2_with (first|((with_reducible refine gate_dst (N:=7) rfl ?_);refine box_event ?hg (N:=7) ?hd (cs:=#[.int .i64 0,.int .i64 0]) (t:=73) ?hr ?_;(case hd=>rfl);(case hg=>rfl);(case hr=>first|(go_simp;done)|(go_simp;rfl));intro gb221 hg w81 hbox hb;have n0_:=Aside0.mk (kb BK215.out hb);have n1_:=Aside0.mk (below_step bs hb);have n2_:=Aside0.mk (hbox);have n3_:=Aside0.mk ((by rw [hg];exact (below_size bs) : w.heap.size ≤ gb221));have n4_:=Aside0.mk ((by rw [hg];exact (below_size bs) : w.heap.size ≤ gb221));have n5_:=Aside0.mk (kn hg BK215.out);have n6_:=Aside0.mk (km hg BK215.out);clear BK215 HB;have BK215:=n0_;have HB:=n1_;have BK221:=n2_;have GW221:=n3_;have GE221:=n4_;have NB215_221:=n5_;have NB221_215:=n6_;clear n0_ n1_ n2_ n3_ n4_ n5_ n6_;clear hb hbox hg;have hnb82:=NB221_215.out;have hnc82:=NB215_221.out;have hcz83_0 : w81.cell? ⟨gb221,0,none⟩ = some (.int .i64 0):=(blk_cell BK221.out 0).trans rfl;have hcz83_1 : w81.cell? ⟨gb221,1,none⟩ = some (.int .i64 0):=(blk_cell BK221.out 1).trans rfl;have hfz83_0:=blk_frozen BK221.out 0;have hfz83_1:=blk_frozen BK221.out 1))
              have n0_ : Aside0 (((w81.setCell ⟨gb221,0,none⟩ (.int .i64 ((rd_T73 l0_1 (rd l1 x16_1)).f0))).setCell ⟨gb221,1,none⟩ (.int .i64 ((rd_T73 l0_1 (rd l1 x16_1)).f1))).heap[gb215]? = some (.cells #[.int .i64 a0_0,.slice (some ad220) l0_1.length c0_1,.slice A0_2 l0_2.length c0_2] 29 (0,0))):=⟨by (with_reducible repeat (first|refine blk_drewN ?_ _|refine blk_drew ?_|refine blk_alloc ?_ _));refine blk_far ?_ NB215_221.out _;(with_reducible repeat (first|refine blk_drewN ?_ _|refine blk_drew ?_|refine blk_alloc ?_ _));refine blk_far ?_ NB215_221.out _;(with_reducible repeat (first|refine blk_drewN ?_ _|refine blk_drew ?_|refine blk_alloc ?_ _));exact BK215.out⟩
              have n1_ : Aside0 (((w81.setCell ⟨gb221,0,none⟩ (.int .i64 ((rd_T73 l0_1 (rd l1 x16_1)).f0))).setCell ⟨gb221,1,none⟩ (.int .i64 ((rd_T73 l0_1 (rd l1 x16_1)).f1))).heap[gb221]? = some (.cells #[.int .i64 ((rd_T73 l0_1 (rd l1 x16_1)).f0),.int .i64 ((rd_T73 l0_1 (rd l1 x16_1)).f1)] 73 (0,0))):=⟨by (with_reducible repeat (first|refine blk_drewN ?_ _|refine blk_drew ?_|refine blk_alloc ?_ _));refine blk_put (cs:=#[.int .i64 ((rd_T73 l0_1 (rd l1 x16_1)).f0),.int .i64 0]) ?_ 1 _ rfl;(with_reducible repeat (first|refine blk_drewN ?_ _|refine blk_drew ?_|refine blk_alloc ?_ _));refine blk_put (cs:=#[.int .i64 0,.int .i64 0]) ?_ 0 _ rfl;(with_reducible repeat (first|refine blk_drewN ?_ _|refine blk_drew ?_|refine blk_alloc ?_ _));exact BK221.out⟩
              have n2_ : Aside0 (Below w.heap.size w ((w81.setCell ⟨gb221,0,none⟩ (.int .i64 ((rd_T73 l0_1 (rd l1 x16_1)).f0))).setCell ⟨gb221,1,none⟩ (.int .i64 ((rd_T73 l0_1 (rd l1 x16_1)).f1)))):=⟨by repeat (first|(with_reducible first|exact HB.out|apply below_alloc|apply pw_below_drewN|apply below_drew1|refine below_set ?_ GE215.out|refine below_set ?_ GE221.out)|exact HB.out)⟩
              (try clear BK215)
              (try clear BK221)
              (try clear HB)
              generalize ((w81.setCell ⟨gb221,0,none⟩ (.int .i64 ((rd_T73 l0_1 (rd l1 x16_1)).f0))).setCell ⟨gb221,1,none⟩ (.int .i64 ((rd_T73 l0_1 (rd l1 x16_1)).f1))) = w84 at n0_ n1_ n2_ ⊢
              have BK215:=n0_
              have BK221:=n1_
              have HB:=n2_
              clear n0_ n1_ n2_
              have n0_:=Aside0.mk (blk_drew BK215.out)
              have n1_:=Aside0.mk (blk_drew BK221.out)
              have n2_:=Aside0.mk (below_drew1 HB.out)
              clear BK215
              clear BK221
              clear HB
              have BK215:=n0_
              have BK221:=n1_
              have HB:=n2_
              clear n0_ n1_ n2_
              refine start_ (n:=36) (S:=fun w'=>w'.cell? ⟨gb221,0,none⟩ = some (.int .i64 ((rd_T73 l0_1 (rd l1 x16_1)).f0)) ∧ w'.cell? ⟨gb221,1,none⟩ = some (.int .i64 ((rd_T73 l0_1 (rd l1 x16_1)).f1)) ∧ w'.cell? ⟨gb215,0,none⟩ = some (.int .i64 a0_0) ∧ w'.cell? ⟨gb215,1,none⟩ = some (.slice (some ad220) l0_1.length c0_1) ∧ w'.cell? ⟨gb215,2,none⟩ = some (.slice A0_2 l0_2.length c0_2)) (ds:=[]) #[false,false,false,false,false,false,false,false,false,false,false,false,false,false,false,false,false,false,false,false,false,false,false,false,false,false,false,false,false,false,false,false,false,false,false,false] (by kernel_rfl) rfl rfl ⟨(blk_cell BK221.out 0).trans rfl,(blk_cell BK221.out 1).trans rfl,(blk_cell BK215.out 0).trans rfl,(blk_cell BK215.out 1).trans rfl,(blk_cell BK215.out 2).trans rfl⟩ (fun hHeld=>?_);refine with_tabW spec_plOrder.tab9 spec_plOrder.bits9 (fun HT_ HW_=>?_)
              generalize w84.drew = w85 at BK215 BK221 HB hHeld ⊢
              refine pure_ (i:=0) (N:=some 40) (v:=?_) (a':=?_) #[true,false,false,false,false,false,false,false,false,false,false,false,false,false,false,false,false,false,false,false,false,false,false,false,false,false,false,false,false,false,false,false,false,false,false,false] rfl rfl (any_of HT_.out (by kernel_rfl)) (fun _ _ _ h=>h) (Or.inl ⟨by rfl,?_⟩) ?_ ?_
              rotate_left
              ·intro w'
               go_simp
               with_reducible rfl
              rotate_left
              ·simp only [Act.put,xa,xb,xc,i64_w,i32_w]
               rfl
              refine pure_ (i:=2) (N:=some 42) (v:=?_) (a':=?_) #[true,false,true,false,false,false,false,false,false,false,false,false,false,false,false,false,false,false,false,false,false,false,false,false,false,false,false,false,false,false,false,false,false,false,false,false] rfl rfl (any_of HT_.out (by kernel_rfl)) (fun _ _ _ h=>h) (Or.inl ⟨by rfl,?_⟩) ?_ ?_
              rotate_left
              ·intro w'
               go_simp
               with_reducible rfl
              rotate_left
              ·simp only [Act.put,xa,xb,xc,i64_w,i32_w]
               rfl
              refine take_ (i:=1) (N:=some 41) (v:=?_) (a':=?_) #[true,true,true,false,false,false,false,false,false,false,false,false,false,false,false,false,false,false,false,false,false,false,false,false,false,false,false,false,false,false,false,false,false,false,false,false] rfl rfl (take_ofW HT_.out HW_.out (by kernel_rfl)) (fun _ _ _ h=>h) (Or.inl ⟨by rfl,?_⟩) hHeld ?_ ?_
              rotate_left
              ·rintro w' ⟨s0,s1,s2,s3,s4⟩
               go_simp
               with_reducible rfl
              rotate_left
              ·simp only [Act.put,xa,xb,xc,i64_w,i32_w]
               rfl
              refine take_ (i:=3) (N:=some 43) (v:=?_) (a':=?_) #[true,true,true,true,false,false,false,false,false,false,false,false,false,false,false,false,false,false,false,false,false,false,false,false,false,false,false,false,false,false,false,false,false,false,false,false] rfl rfl (take_ofW HT_.out HW_.out (by kernel_rfl)) (fun _ _ _ h=>h) (Or.inl ⟨by rfl,?_⟩) hHeld ?_ ?_
              rotate_left
              ·rintro w' ⟨s0,s1,s2,s3,s4⟩
               go_simp
               with_reducible rfl
              rotate_left
              ·simp only [Act.put,xa,xb,xc,i64_w,i32_w]
               rfl
              refine pure_ (i:=4) (N:=some 44) (v:=?_) (a':=?_) #[true,true,true,true,true,false,false,false,false,false,false,false,false,false,false,false,false,false,false,false,false,false,false,false,false,false,false,false,false,false,false,false,false,false,false,false] rfl rfl (any_of HT_.out (by kernel_rfl)) (fun _ _ _ h=>h) (Or.inl ⟨by rfl,?_⟩) ?_ ?_
              rotate_left
              ·intro w'
               go_simp
               with_reducible rfl
              rotate_left
              ·simp only [Act.put,xa,xb,xc,i64_w,i32_w]
               rfl
              refine pure_ (i:=5) (N:=some 45) (v:=?_) (a':=?_) #[true,true,true,true,true,true,false,false,false,false,false,false,false,false,false,false,false,false,false,false,false,false,false,false,false,false,false,false,false,false,false,false,false,false,false,false] rfl rfl (any_of HT_.out (by kernel_rfl)) (fun _ _ _ h=>h) (Or.inl ⟨by rfl,?_⟩) ?_ ?_
              rotate_left
              ·intro w'
               go_simp
               with_reducible rfl
              rotate_left
              ·simp only [Act.put,xa,xb,xc,i64_w,i32_w]
               rfl
              refine pure_ (i:=6) (N:=some 46) (v:=undef) (a':=?_) #[true,true,true,true,true,true,true,false,false,false,false,false,false,false,false,false,false,false,false,false,false,false,false,false,false,false,false,false,false,false,false,false,false,false,false,false] rfl rfl (any_of HT_.out (by kernel_rfl)) (fun _ _ _ h=>h) (Or.inr ⟨by rfl,rfl⟩) ?_ ?_
              rotate_left
              ·simp only [Act.put,xa,xb,xc,i64_w,i32_w]
               rfl
              refine pure_ (i:=7) (N:=some 47) (v:=undef) (a':=?_) #[true,true,true,true,true,true,true,true,false,false,false,false,false,false,false,false,false,false,false,false,false,false,false,false,false,false,false,false,false,false,false,false,false,false,false,false] rfl rfl (any_of HT_.out (by kernel_rfl)) (fun _ _ _ h=>h) (Or.inr ⟨by rfl,rfl⟩) ?_ ?_
              rotate_left
              ·simp only [Act.put,xa,xb,xc,i64_w,i32_w]
               rfl
              refine pure_ (i:=8) (N:=some 48) (v:=undef) (a':=?_) #[true,true,true,true,true,true,true,true,true,false,false,false,false,false,false,false,false,false,false,false,false,false,false,false,false,false,false,false,false,false,false,false,false,false,false,false] rfl rfl (any_of HT_.out (by kernel_rfl)) (fun _ _ _ h=>h) (Or.inr ⟨by rfl,rfl⟩) ?_ ?_
              rotate_left
              ·simp only [Act.put,xa,xb,xc,i64_w,i32_w]
               rfl
              refine pure_ (i:=9) (N:=some 49) (v:=undef) (a':=?_) #[true,true,true,true,true,true,true,true,true,true,false,false,false,false,false,false,false,false,false,false,false,false,false,false,false,false,false,false,false,false,false,false,false,false,false,false] rfl rfl (any_of HT_.out (by kernel_rfl)) (fun _ _ _ h=>h) (Or.inr ⟨by rfl,rfl⟩) ?_ ?_
              rotate_left
              ·simp only [Act.put,xa,xb,xc,i64_w,i32_w]
               rfl
              refine pure_ (i:=10) (N:=some 50) (v:=undef) (a':=?_) #[true,true,true,true,true,true,true,true,true,true,true,false,false,false,false,false,false,false,false,false,false,false,false,false,false,false,false,false,false,false,false,false,false,false,false,false] rfl rfl (any_of HT_.out (by kernel_rfl)) (fun _ _ _ h=>h) (Or.inr ⟨by rfl,rfl⟩) ?_ ?_
              rotate_left
              ·simp only [Act.put,xa,xb,xc,i64_w,i32_w]
               rfl
              refine pure_ (i:=11) (N:=some 51) (v:=undef) (a':=?_) #[true,true,true,true,true,true,true,true,true,true,true,true,false,false,false,false,false,false,false,false,false,false,false,false,false,false,false,false,false,false,false,false,false,false,false,false] rfl rfl (any_of HT_.out (by kernel_rfl)) (fun _ _ _ h=>h) (Or.inr ⟨by rfl,rfl⟩) ?_ ?_
              rotate_left
              ·simp only [Act.put,xa,xb,xc,i64_w,i32_w]
               rfl
              refine pure_ (i:=12) (N:=some 52) (v:=undef) (a':=?_) #[true,true,true,true,true,true,true,true,true,true,true,true,true,false,false,false,false,false,false,false,false,false,false,false,false,false,false,false,false,false,false,false,false,false,false,false] rfl rfl (any_of HT_.out (by kernel_rfl)) (fun _ _ _ h=>h) (Or.inr ⟨by rfl,rfl⟩) ?_ ?_
              rotate_left
              ·simp only [Act.put,xa,xb,xc,i64_w,i32_w]
               rfl
              refine pure_ (i:=13) (N:=some 53) (v:=undef) (a':=?_) #[true,true,true,true,true,true,true,true,true,true,true,true,true,true,false,false,false,false,false,false,false,false,false,false,false,false,false,false,false,false,false,false,false,false,false,false] rfl rfl (any_of HT_.out (by kernel_rfl)) (fun _ _ _ h=>h) (Or.inr ⟨by rfl,rfl⟩) ?_ ?_
              rotate_left
              ·simp only [Act.put,xa,xb,xc,i64_w,i32_w]
               rfl
              refine pure_ (i:=14) (N:=some 54) (v:=undef) (a':=?_) #[true,true,true,true,true,true,true,true,true,true,true,true,true,true,true,false,false,false,false,false,false,false,false,false,false,false,false,false,false,false,false,false,false,false,false,false] rfl rfl (any_of HT_.out (by kernel_rfl)) (fun _ _ _ h=>h) (Or.inr ⟨by rfl,rfl⟩) ?_ ?_
              rotate_left
              ·simp only [Act.put,xa,xb,xc,i64_w,i32_w]
               rfl
              refine pure_ (i:=15) (N:=some 55) (v:=undef) (a':=?_) #[true,true,true,true,true,true,true,true,true,true,true,true,true,true,true,true,false,false,false,false,false,false,false,false,false,false,false,false,false,false,false,false,false,false,false,false] rfl rfl (any_of HT_.out (by kernel_rfl)) (fun _ _ _ h=>h) (Or.inr ⟨by rfl,rfl⟩) ?_ ?_
              rotate_left
              ·simp only [Act.put,xa,xb,xc,i64_w,i32_w]
               rfl
              refine pure_ (i:=16) (N:=some 56) (v:=?_) (a':=?_) #[true,true,true,true,true,true,true,true,true,true,true,true,true,true,true,true,true,false,false,false,false,false,false,false,false,false,false,false,false,false,false,false,false,false,false,false] rfl rfl (any_of HT_.out (by kernel_rfl)) (fun _ _ _ h=>h) (Or.inl ⟨by rfl,?_⟩) ?_ ?_
              rotate_left
              ·intro w'
               go_simp
               with_reducible rfl
              rotate_left
              ·simp only [Act.put,xa,xb,xc,i64_w,i32_w]
               rfl
              refine pure_ (i:=17) (N:=some 57) (v:=?_) (a':=?_) #[true,true,true,true,true,true,true,true,true,true,true,true,true,true,true,true,true,true,false,false,false,false,false,false,false,false,false,false,false,false,false,false,false,false,false,false] rfl rfl (any_of HT_.out (by kernel_rfl)) (fun _ _ _ h=>h) (Or.inl ⟨by rfl,?_⟩) ?_ ?_
              rotate_left
              ·intro w'
               go_simp
               with_reducible rfl
              rotate_left
              ·simp only [Act.put,xa,xb,xc,i64_w,i32_w]
               rfl
              refine pure_ (i:=18) (N:=some 58) (v:=?_) (a':=?_) #[true,true,true,true,true,true,true,true,true,true,true,true,true,true,true,true,true,true,true,false,false,false,false,false,false,false,false,false,false,false,false,false,false,false,false,false] rfl rfl (any_of HT_.out (by kernel_rfl)) (fun _ _ _ h=>h) (Or.inl ⟨by rfl,?_⟩) ?_ ?_
              rotate_left
              ·intro w'
               go_simp
               with_reducible rfl
              rotate_left
              ·simp only [Act.put,xa,xb,xc,i64_w,i32_w]
               rfl
              refine pure_ (i:=20) (N:=some 60) (v:=?_) (a':=?_) #[true,true,true,true,true,true,true,true,true,true,true,true,true,true,true,true,true,true,true,false,true,false,false,false,false,false,false,false,false,false,false,false,false,false,false,false] rfl rfl (any_of HT_.out (by kernel_rfl)) (fun _ _ _ h=>h) (Or.inl ⟨by rfl,?_⟩) ?_ ?_
              rotate_left
              ·intro w'
               go_simp
               with_reducible rfl
              rotate_left
              ·simp only [Act.put,xa,xb,xc,i64_w,i32_w]
               rfl
              refine take_ (i:=19) (N:=some 59) (v:=?_) (a':=?_) #[true,true,true,true,true,true,true,true,true,true,true,true,true,true,true,true,true,true,true,true,true,false,false,false,false,false,false,false,false,false,false,false,false,false,false,false] rfl rfl (take_ofW HT_.out HW_.out (by kernel_rfl)) (fun _ _ _ h=>h) (Or.inl ⟨by rfl,?_⟩) hHeld ?_ ?_
              rotate_left
              ·rintro w' ⟨s0,s1,s2,s3,s4⟩
               go_simp
               with_reducible rfl
              rotate_left
              ·simp only [Act.put,xa,xb,xc,i64_w,i32_w]
               rfl
              refine take_ (i:=21) (N:=some 61) (v:=?_) (a':=?_) #[true,true,true,true,true,true,true,true,true,true,true,true,true,true,true,true,true,true,true,true,true,true,false,false,false,false,false,false,false,false,false,false,false,false,false,false] rfl rfl (take_ofW HT_.out HW_.out (by kernel_rfl)) (fun _ _ _ h=>h) (Or.inl ⟨by rfl,?_⟩) hHeld ?_ ?_
              rotate_left
              ·rintro w' ⟨s0,s1,s2,s3,s4⟩
               go_simp
               with_reducible rfl
              rotate_left
              ·simp only [Act.put,xa,xb,xc,i64_w,i32_w]
               rfl
              refine pure_ (i:=22) (N:=some 62) (v:=?_) (a':=?_) #[true,true,true,true,true,true,true,true,true,true,true,true,true,true,true,true,true,true,true,true,true,true,true,false,false,false,false,false,false,false,false,false,false,false,false,false] rfl rfl (any_of HT_.out (by kernel_rfl)) (fun _ _ _ h=>h) (Or.inl ⟨by rfl,?_⟩) ?_ ?_
              rotate_left
              ·intro w'
               go_simp
               with_reducible rfl
              rotate_left
              ·simp only [Act.put,xa,xb,xc,i64_w,i32_w]
               rfl
              refine pure_ (i:=23) (N:=some 63) (v:=?_) (a':=?_) #[true,true,true,true,true,true,true,true,true,true,true,true,true,true,true,true,true,true,true,true,true,true,true,true,false,false,false,false,false,false,false,false,false,false,false,false] rfl rfl (any_of HT_.out (by kernel_rfl)) (fun _ _ _ h=>h) (Or.inl ⟨by rfl,?_⟩) ?_ ?_
              rotate_left
              ·intro w'
               go_simp
               with_reducible rfl
              rotate_left
              ·simp only [Act.put,xa,xb,xc,i64_w,i32_w]
               rfl
              refine pure_ (i:=24) (N:=some 64) (v:=undef) (a':=?_) #[true,true,true,true,true,true,true,true,true,true,true,true,true,true,true,true,true,true,true,true,true,true,true,true,true,false,false,false,false,false,false,false,false,false,false,false] rfl rfl (any_of HT_.out (by kernel_rfl)) (fun _ _ _ h=>h) (Or.inr ⟨by rfl,rfl⟩) ?_ ?_
              rotate_left
              ·simp only [Act.put,xa,xb,xc,i64_w,i32_w]
               rfl
              refine pure_ (i:=25) (N:=some 65) (v:=undef) (a':=?_) #[true,true,true,true,true,true,true,true,true,true,true,true,true,true,true,true,true,true,true,true,true,true,true,true,true,true,false,false,false,false,false,false,false,false,false,false] rfl rfl (any_of HT_.out (by kernel_rfl)) (fun _ _ _ h=>h) (Or.inr ⟨by rfl,rfl⟩) ?_ ?_
              rotate_left
              ·simp only [Act.put,xa,xb,xc,i64_w,i32_w]
               rfl
              refine pure_ (i:=26) (N:=some 66) (v:=undef) (a':=?_) #[true,true,true,true,true,true,true,true,true,true,true,true,true,true,true,true,true,true,true,true,true,true,true,true,true,true,true,false,false,false,false,false,false,false,false,false] rfl rfl (any_of HT_.out (by kernel_rfl)) (fun _ _ _ h=>h) (Or.inr ⟨by rfl,rfl⟩) ?_ ?_
              rotate_left
              ·simp only [Act.put,xa,xb,xc,i64_w,i32_w]
               rfl
              refine pure_ (i:=27) (N:=some 67) (v:=undef) (a':=?_) #[true,true,true,true,true,true,true,true,true,true,true,true,true,true,true,true,true,true,true,true,true,true,true,true,true,true,true,true,false,false,false,false,false,false,false,false] rfl rfl (any_of HT_.out (by kernel_rfl)) (fun _ _ _ h=>h) (Or.inr ⟨by rfl,rfl⟩) ?_ ?_
              rotate_left
              ·simp only [Act.put,xa,xb,xc,i64_w,i32_w]
               rfl
              refine pure_ (i:=28) (N:=some 68) (v:=undef) (a':=?_) #[true,true,true,true,true,true,true,true,true,true,true,true,true,true,true,true,true,true,true,true,true,true,true,true,true,true,true,true,true,false,false,false,false,false,false,false] rfl rfl (any_of HT_.out (by kernel_rfl)) (fun _ _ _ h=>h) (Or.inr ⟨by rfl,rfl⟩) ?_ ?_
              rotate_left
              ·simp only [Act.put,xa,xb,xc,i64_w,i32_w]
               rfl
              refine pure_ (i:=29) (N:=some 69) (v:=undef) (a':=?_) #[true,true,true,true,true,true,true,true,true,true,true,true,true,true,true,true,true,true,true,true,true,true,true,true,true,true,true,true,true,true,false,false,false,false,false,false] rfl rfl (any_of HT_.out (by kernel_rfl)) (fun _ _ _ h=>h) (Or.inr ⟨by rfl,rfl⟩) ?_ ?_
              rotate_left
              ·simp only [Act.put,xa,xb,xc,i64_w,i32_w]
               rfl
              refine pure_ (i:=30) (N:=some 70) (v:=undef) (a':=?_) #[true,true,true,true,true,true,true,true,true,true,true,true,true,true,true,true,true,true,true,true,true,true,true,true,true,true,true,true,true,true,true,false,false,false,false,false] rfl rfl (any_of HT_.out (by kernel_rfl)) (fun _ _ _ h=>h) (Or.inr ⟨by rfl,rfl⟩) ?_ ?_
              rotate_left
              ·simp only [Act.put,xa,xb,xc,i64_w,i32_w]
               rfl
              refine pure_ (i:=31) (N:=some 71) (v:=undef) (a':=?_) #[true,true,true,true,true,true,true,true,true,true,true,true,true,true,true,true,true,true,true,true,true,true,true,true,true,true,true,true,true,true,true,true,false,false,false,false] rfl rfl (any_of HT_.out (by kernel_rfl)) (fun _ _ _ h=>h) (Or.inr ⟨by rfl,rfl⟩) ?_ ?_
              rotate_left
              ·simp only [Act.put,xa,xb,xc,i64_w,i32_w]
               rfl
              refine pure_ (i:=32) (N:=some 72) (v:=undef) (a':=?_) #[true,true,true,true,true,true,true,true,true,true,true,true,true,true,true,true,true,true,true,true,true,true,true,true,true,true,true,true,true,true,true,true,true,false,false,false] rfl rfl (any_of HT_.out (by kernel_rfl)) (fun _ _ _ h=>h) (Or.inr ⟨by rfl,rfl⟩) ?_ ?_
              rotate_left
              ·simp only [Act.put,xa,xb,xc,i64_w,i32_w]
               rfl
              refine pure_ (i:=33) (N:=some 73) (v:=undef) (a':=?_) #[true,true,true,true,true,true,true,true,true,true,true,true,true,true,true,true,true,true,true,true,true,true,true,true,true,true,true,true,true,true,true,true,true,true,false,false] rfl rfl (any_of HT_.out (by kernel_rfl)) (fun _ _ _ h=>h) (Or.inr ⟨by rfl,rfl⟩) ?_ ?_
              rotate_left
              ·simp only [Act.put,xa,xb,xc,i64_w,i32_w]
               rfl
              refine pure_ (i:=34) (N:=some 74) (v:=?_) (a':=?_) #[true,true,true,true,true,true,true,true,true,true,true,true,true,true,true,true,true,true,true,true,true,true,true,true,true,true,true,true,true,true,true,true,true,true,true,false] rfl rfl (any_of HT_.out (by kernel_rfl)) (fun _ _ _ h=>h) (Or.inl ⟨by rfl,?_⟩) ?_ ?_
              rotate_left
              ·intro w'
               go_simp
               with_reducible rfl
              rotate_left
              ·simp only [Act.put,xa,xb,xc,i64_w,i32_w]
               rfl
              refine pure_ (i:=35) (N:=some 75) (v:=?_) (a':=?_) #[true,true,true,true,true,true,true,true,true,true,true,true,true,true,true,true,true,true,true,true,true,true,true,true,true,true,true,true,true,true,true,true,true,true,true,true] rfl rfl (any_of HT_.out (by kernel_rfl)) (fun _ _ _ h=>h) (Or.inl ⟨by rfl,?_⟩) ?_ ?_
              rotate_left
              ·intro w'
               go_simp
               with_reducible rfl
              rotate_left
              ·simp only [Act.put,xa,xb,xc,i64_w,i32_w]
               rfl
              refine done_ (done_of HT_.out (by kernel_rfl)) ?_
              try go_wp2
              go_roundg kj8
              case measure=>have:=HK1.out;have:=HJ8.out;omega
              case rel=>exact ⟨(wrap64 (x16_1 + 1)),fz,H',⟨by have:=HK1.out;have:=HJ8.out;omega⟩,⟨by (with_reducible repeat (first|refine blk_drewN ?_ _|refine blk_drew ?_|refine blk_alloc ?_ _));exact BK215.out⟩,⟨by repeat (first|(with_reducible first|exact HB.out|apply below_alloc|apply pw_below_drewN|apply below_drew1|refine below_set ?_ GE215.out|refine below_set ?_ GE221.out)|exact HB.out)⟩⟩
           ·rw [if_neg c20] at H
            exact absurd H (by simp)
          ·rw [if_neg c19] at H
           exact absurd H (by simp)
      ·rw [if_neg c8] at H
       exact absurd H (by simp)
     ·rw [if_neg c7] at H
      exact absurd H (by simp)
    ·rw [if_neg c6] at H
     have c6b0 : decide (x16_1 < (l1.length : Int)) = false:=decide_eq_false c6
     clear c6
     obtain rfl:=Option.some.inj H
     go_wp2
     go_ret
     exact ⟨by first|rfl|(simp [errW_none,errW_some] <;> rfl)|(simp [*,errW_none,errW_some] <;> rfl),by repeat (first|(with_reducible first|exact HB.out|apply below_alloc|apply pw_below_drewN|apply below_drew1|refine below_set ?_ GE215.out)|exact HB.out)⟩
 ·rw [if_neg c3] at H
  have c3b0 : ((l1.length : Int) == (l0_1.length : Int)) = false:=beq_eq_false_iff_ne.mpr c3
  have c3b1 : ((l1.length : Int) != (l0_1.length : Int)) = true:=bne_iff_ne.mpr c3
  have c3b2 : (l1.length == l0_1.length) = false:=by first|simpa using c3|(simp at c3 ⊢;omega)
  obtain rfl:=Option.some.inj H
  go_enter Try.func66,Try.ntmps66
  go_wp2_with (first|((with_reducible refine gate_dst (N:=2) rfl ?_);refine box_event ?hg (N:=2) ?hd (cs:=#[.int .i64 a0_0,.slice A0_1 l0_1.length c0_1,.slice A0_2 l0_2.length c0_2]) (t:=29) ?hr ?_;(case hd=>rfl);(case hg=>rfl);(case hr=>first|(go_simp;done)|(go_simp;rfl));intro gb215 hg w86 hbox hb;have n0_:=Aside0.mk (below_step bz hb);have n1_:=Aside0.mk (hbox);have n2_:=Aside0.mk ((by rw [hg];exact (below_size bz) : w.heap.size ≤ gb215));have n3_:=Aside0.mk ((by rw [hg];exact (below_size bz) : w.heap.size ≤ gb215));clear HB;have HB:=n0_;have BK215:=n1_;have GW215:=n2_;have GE215:=n3_;clear n0_ n1_ n2_ n3_;clear hb hbox hg;have hcz87_0 : w86.cell? ⟨gb215,0,none⟩ = some (.int .i64 a0_0):=(blk_cell BK215.out 0).trans rfl;have hcz87_1 : w86.cell? ⟨gb215,1,none⟩ = some (.slice A0_1 l0_1.length c0_1):=(blk_cell BK215.out 1).trans rfl;have hcz87_2 : w86.cell? ⟨gb215,2,none⟩ = some (.slice A0_2 l0_2.length c0_2):=(blk_cell BK215.out 2).trans rfl;have hfz87_0:=blk_frozen BK215.out 0;have hfz87_1:=blk_frozen BK215.out 1;have hfz87_2:=blk_frozen BK215.out 2))
  go_ret
  exact ⟨by first|rfl|(simp [errW_none,errW_some] <;> rfl)|(simp [*,errW_none,errW_some] <;> rfl),by repeat (first|(with_reducible first|exact HB.out|apply below_alloc|apply pw_below_drewN|apply below_drew1|refine below_set ?_ GE215.out)|exact HB.out)⟩
end Go.Proofs.Ytdcdaoancmpbeaa.MFnExactReorderSteps
--sq
