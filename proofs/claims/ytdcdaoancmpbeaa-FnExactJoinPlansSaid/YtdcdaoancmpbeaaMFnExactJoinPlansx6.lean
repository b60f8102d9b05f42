import Derived.Test.YtdcdaoancmpbeaaMFnExactJoinPlansx0
import Derived.Test.YtdcdaoancmpbeaaMFnExactJoinPlansx5
namespace Go.Proofs.Ytdcdaoancmpbeaa.MFnExactJoinPlans
open Go.RowKit Go.Proofs.YtdcdaoancmpbeaaW.PrintWords Go.Proofs.YtdcdaoancmpbeaaW.PrintLast Go.Proofs.YtdcdaoancmpbeaaW.PrintMore Go.Proofs.YtdcdaoancmpbeaaV Go.Proofs.YtdcdaoancmpbeaaZ
attribute [local go_sem] max2_int min2_int max_two min_two max_three min_three max_four min_four   -- for this text's walks alone
set_option linter.unusedVariables false
set_option linter.unusedSimpArgs false
/-! ### laws_toStep: function 85 -/
def laws_toStep.f (a0_0 : Int) (a0_1 : Int) : Option (Int × Int):=some (a0_0,a0_1)
set_option maxHeartbeats 8000000 in
set_option maxRecDepth 100000 in
theorem laws_toStep.calls (a0_0 : Int) (a0_1 : Int) (r1 : Int) (r2 : Int) (w : World) (h : laws_toStep.f a0_0 a0_1 = some (r1,r2)) :
  Calls Try.prog 85 #[.agg #[.int .i64 a0_0,.int .i64 a0_1]] w fun e w'=>e = .returned (.agg #[.int .i64 r1,.int .i64 r2]) ∧ Below w.heap.size w w':=by
 have hu93:=Try.underlying93
 have hu73:=Try.underlying73
 have HB:=Aside0.mk (Below.refl w.heap.size w)
 have H : (some (a0_0,a0_1)) = some (r1,r2):=h
 clear h
 simp only [Option.some.injEq,Prod.mk.injEq] at H
 obtain ⟨rfl,rfl⟩:=H
 go_enter Try.func85,Try.ntmps85
 go_wp2_with (first|((with_reducible refine gate_dst (N:=1) rfl ?_);refine box_event ?hg (N:=1) ?hd (cs:=#[.int .i64 a0_0,.int .i64 a0_1]) (t:=93) ?hr ?_;(case hd=>rfl);(case hg=>rfl);(case hr=>first|(go_simp;done)|(go_simp;rfl));intro gb216 hg w2 hbox hb;have n0_:=Aside0.mk (below_step bz hb);have n1_:=Aside0.mk (hbox);have n2_:=Aside0.mk ((by rw [hg];exact (below_size bz) : w.heap.size ≤ gb216));have n3_:=Aside0.mk ((by rw [hg];exact (below_size bz) : w.heap.size ≤ gb216));clear HB;have HB:=n0_;have BK216:=n1_;have GW216:=n2_;have GE216:=n3_;clear n0_ n1_ n2_ n3_;clear hb hbox hg)|((with_reducible refine gate_dst (N:=2) rfl ?_);refine box_event ?hg (N:=2) ?hd (cs:=#[.int .i64 0,.int .i64 0]) (t:=73) ?hr ?_;(case hd=>rfl);(case hg=>rfl);(case hr=>first|(go_simp;done)|(go_simp;rfl));intro gb217 hg w3 hbox hb;have n0_:=Aside0.mk (kb BK216.out hb);have n1_:=Aside0.mk (below_step bs hb);have n2_:=Aside0.mk (hbox);have n3_:=Aside0.mk ((by rw [hg];exact (below_size bs) : w.heap.size ≤ gb217));have n4_:=Aside0.mk ((by rw [hg];exact (below_size bs) : w.heap.size ≤ gb217));have n5_:=Aside0.mk (kn hg BK216.out);have n6_:=Aside0.mk (km hg BK216.out);clear BK216 HB;have BK216:=n0_;have HB:=n1_;have BK217:=n2_;have GW217:=n3_;have GE217:=n4_;have NB216_217:=n5_;have NB217_216:=n6_;clear n0_ n1_ n2_ n3_ n4_ n5_ n6_;clear hb hbox hg)|((with_reducible refine gate_dst (N:=3) rfl ?_);refine box_event ?hg (N:=3) ?hd (cs:=#[.int .i64 0,.int .i64 0]) (t:=73) ?hr ?_;(case hd=>rfl);(case hg=>rfl);(case hr=>first|(go_simp;done)|(go_simp;rfl));intro gb218 hg w4 hbox hb;have n0_:=Aside0.mk (kb BK216.out hb);have n1_:=Aside0.mk (kb BK217.out hb);have n2_:=Aside0.mk (below_step bs hb);have n3_:=Aside0.mk (hbox);have n4_:=Aside0.mk ((by rw [hg];exact (below_size bs) : w.heap.size ≤ gb218));have n5_:=Aside0.mk ((by rw [hg];exact (below_size bs) : w.heap.size ≤ gb218));have n6_:=Aside0.mk (kn hg BK216.out);have n7_:=Aside0.mk (km hg BK216.out);have n8_:=Aside0.mk (kn hg BK217.out);have n9_:=Aside0.mk (km hg BK217.out);clear BK216 BK217 HB;have BK216:=n0_;have BK217:=n1_;have HB:=n2_;have BK218:=n3_;have GW218:=n4_;have GE218:=n5_;have NB216_218:=n6_;have NB218_216:=n7_;have NB217_218:=n8_;have NB218_217:=n9_;clear n0_ n1_ n2_ n3_ n4_ n5_ n6_ n7_ n8_ n9_;clear hb hbox hg;have hnb5:=NB216_217.out;have hnc5:=NB217_216.out;have hnb6:=NB216_218.out;have hnc6:=NB218_216.out;have hcz7_0 : w4.cell? ⟨gb216,0,none⟩ = some (.int .i64 a0_0):=(blk_cell BK216.out 0).trans rfl;have hcz7_1 : w4.cell? ⟨gb216,1,none⟩ = some (.int .i64 a0_1):=(blk_cell BK216.out 1).trans rfl;have hfz7_0:=blk_frozen BK216.out 0;have hfz7_1:=blk_frozen BK216.out 1;have hnb8:=NB218_217.out;have hnc8:=NB217_218.out;have hcz9_0 : w4.cell? ⟨gb218,0,none⟩ = some (.int .i64 0):=(blk_cell BK218.out 0).trans rfl;have hcz9_1 : w4.cell? ⟨gb218,1,none⟩ = some (.int .i64 0):=(blk_cell BK218.out 1).trans rfl;have hfz9_0:=blk_frozen BK218.out 0;have hfz9_1:=blk_frozen BK218.out 1;have hcz10_0 : w4.cell? ⟨gb217,0,none⟩ = some (.int .i64 0):=(blk_cell BK217.out 0).trans rfl;have hcz10_1 : w4.cell? ⟨gb217,1,none⟩ = some (.int .i64 0):=(blk_cell BK217.out 1).trans rfl;have hfz10_0:=blk_frozen BK217.out 0;have hfz10_1:=blk_frozen BK217.out 1))
 refine bodyPost_ret (results_cell_row rfl _ _ gb217 73 #[.int .i64 a0_0,.int .i64 a0_1] (0,0) _ rfl (by (with_reducible repeat (first|refine blk_drewN ?_ _|refine blk_drew ?_|refine blk_alloc ?_ _));refine blk_put (cs:=#[.int .i64 a0_0,.int .i64 0]) ?_ 1 _ rfl;(with_reducible repeat (first|refine blk_drewN ?_ _|refine blk_drew ?_|refine blk_alloc ?_ _));refine blk_put (cs:=#[.int .i64 0,.int .i64 0]) ?_ 0 _ rfl;(with_reducible repeat (first|refine blk_drewN ?_ _|refine blk_drew ?_|refine blk_alloc ?_ _));refine blk_far ?_ NB217_218.out _;(with_reducible repeat (first|refine blk_drewN ?_ _|refine blk_drew ?_|refine blk_alloc ?_ _));refine blk_far ?_ NB217_218.out _;(with_reducible repeat (first|refine blk_drewN ?_ _|refine blk_drew ?_|refine blk_alloc ?_ _));exact BK217.out) Try.underlying73 rfl (by kernel_rfl)) rfl ?_
 exact ⟨by first|rfl|(simp [errW_none,errW_some] <;> rfl)|(simp [*,errW_none,errW_some] <;> rfl),by repeat (first|(with_reducible first|exact HB.out|apply below_alloc|apply pw_below_drewN|apply below_drew1|refine below_set ?_ GE216.out|refine below_set ?_ GE217.out|refine below_set ?_ GE218.out)|exact HB.out)⟩
/-! ### laws_toStepS: function 43 -/
def laws_toStepS.l0 : Nat → List (S93) → List (S73) → Int → Option ((List (S73)))
 | 0,_,_,_=>none
 | k + 1,x0,x3,x4=>if x4 < (x0.length : Int) then (if 0 ≤ x4 then ((laws_toStep.f ((rd_T93 x0 x4).f0) ((rd_T93 x0 x4).f1)).bind fun bt223=>(if x4 < (x3.length : Int) then (laws_toStepS.l0 k x0 (x3.set (x4 : Int).toNat (⟨bt223.1,bt223.2⟩ : S73)) (wrap64 (x4 + 1))) else (none))) else (none)) else (some x3)
def laws_toStepS.f (k : Nat) (l0 : List (S93)) : Option ((List (S73))):=if 0 ≤ (l0.length : Int) then (if ((l0.length : Int) : Int).toNat ≤ 17592186044416 then (laws_toStepS.l0 k l0 (List.replicate ((l0.length : Int) : Int).toNat z73) 0) else (none)) else (none)
theorem laws_toStepS.mono_l : ∀ k,(∀ y0 y1 y2,LeO (laws_toStepS.l0 k y0 y1 y2) (laws_toStepS.l0 (k + 1) y0 y1 y2))
 | 0=>fun _ _ _ r h=>by simp [laws_toStepS.l0] at h
 | k + 1=>by
  have ih0:=laws_toStepS.mono_l k
  ·intro y0 y1 y2
   unfold laws_toStepS.l0
   repeat' first
   | (with_reducible exact ih0 _ _ _)
   | (with_reducible exact LeO.refl _)
   | (with_reducible exact LeO.none _)
   | (with_reducible refine LeO.ite ?_ ?_)
   | (with_reducible refine LeO.bind ?_ (fun _=>?_))
   | exact ih0 _ _ _
   | exact LeO.none _
   | refine LeO.ite ?_ ?_
   | refine LeO.bind ?_ (fun _=>?_)
theorem laws_toStepS.mono : ∀ a0 k,LeO (laws_toStepS.f k a0) (laws_toStepS.f (k + 1) a0):=by
 intro a0 k
 have ih0:=laws_toStepS.mono_l k
 unfold laws_toStepS.f
 repeat' first
   | (with_reducible exact ih0 _ _ _)
   | (with_reducible exact LeO.refl _)
   | (with_reducible exact LeO.none _)
   | (with_reducible refine LeO.ite ?_ ?_)
   | (with_reducible refine LeO.bind ?_ (fun _=>?_))
   | exact ih0 _ _ _
   | exact LeO.none _
   | refine LeO.ite ?_ ?_
   | refine LeO.bind ?_ (fun _=>?_)
set_option maxHeartbeats 8000000 in
set_option maxRecDepth 100000 in
theorem laws_toStepS.calls (k : Nat) (A0 : Option Addr) (c0 : Nat) (l0 : List (S93)) (r : List (S73)) (w : World) (hr0 : Kd.C k93 w A0 l0.length l0) (hc0 : l0.length ≤ c0) (h : laws_toStepS.f k l0 = some r) :
  Calls Try.prog 43 #[.slice A0 l0.length c0] w fun e w'=>∃ v0_ : Value,e = .returned (v0_) ∧ Kd.R k73 73 w' w.heap.size (fun _=>True) v0_ r ∧ Below w.heap.size w w':=by
 have hu93:=Try.underlying93
 have hu73:=Try.underlying73
 have HR0:=Aside0.mk hr0
 have HC0:=Aside0.mk hc0
 clear hr0 hc0
 have HB:=Aside0.mk (Below.refl w.heap.size w)
 have H : (if 0 ≤ (l0.length : Int) then (if ((l0.length : Int) : Int).toNat ≤ 17592186044416 then (laws_toStepS.l0 k l0 (List.replicate ((l0.length : Int) : Int).toNat z73) 0) else (none)) else (none)) = some r:=h
 clear h
 by_cases c2 : 0 ≤ (l0.length : Int)
 ·rw [if_pos c2] at H
  have c2b0:=eq_true c2
  have c2b1 : decide (0 ≤ (l0.length : Int)) = true:=decide_eq_true c2
  clear c2
  by_cases c3 : ((l0.length : Int) : Int).toNat ≤ 17592186044416
  ·rw [if_pos c3] at H
   have c3b0:=eq_true c3
   have c3b1 : decide (((l0.length : Int) : Int).toNat ≤ 17592186044416) = true:=decide_eq_true c3
   clear c3
   obtain ⟨y219,hy219⟩ : ∃ y_ : List (S73),y_ = (List.replicate ((l0.length : Int) : Int).toNat z73):=⟨_,rfl⟩
   replace H : (laws_toStepS.l0 k l0 y219 0) = some r:=by first|(rw [hy219];with_reducible exact H)|(have H2_:=(Option.bind_some _ _).symm.trans H;rw [hy219];with_reducible exact H2_)|(have H2_:=(Option.bind_some _ _).symm.trans H;with_reducible exact H2_)|with_reducible exact H|(rw [hy219];exact H)|exact H
   have Ny219:=Aside0.mk hy219
   clear hy219
   have H':=Aside0.mk H
   clear H
   go_enter Try.func43,Try.ntmps43
   go_wp2_with (first|((with_reducible refine gate_dst (N:=7) rfl ?_);refine Kd.R_make k73 _ 73 rfl (N:=7) rfl 27 _ _ rfl (l0.length : Int) rfl rfl Try.underlying27 (.agg #[(.int .i64 0),(.int .i64 0)]) 16 info73 rfl (by decide) (by omega) z73 (ok:=fun _=>True) (okp:=fun _=>True) (k73_mkM _ _ _ z73 ) (fun _ hk=>hk) trivial (of_decide_eq_true az) (Nat.le_trans (Nat.mul_le_mul_right _ (of_decide_eq_true az : (l0.length : Int).toNat ≤ 17592186044416)) (by omega)) (Below.refl _ _) (Nat.le_refl _) ?_;intro v220 w4 ho5 hb hg_ hnew_;clear hg_ hnew_;(first|rw [← Ny219.out] at ho5|(simp only [Int.reduceToNat] at ho5;rw [← Ny219.out] at ho5));have n0_:=Aside0.mk (Kd.R_lower ho5 (below_size bz));have n1_:=Aside0.mk (below_step bz hb);clear HB;have HO221:=n0_;have HB:=n1_;clear n0_ n1_;clear hb ho5))
   go_loopg [4] k (fun kq v4 w'=>∃ (x3_1 : List (S73)) (x4_1 : Int),v4 = .int .i64 x4_1 ∧ Aside0 (laws_toStepS.l0 kq l0 x3_1 x4_1 = some r) ∧ Aside0 (kq ≤ k) ∧ Aside0 (Kd.R k73 73 w' w.heap.size (fun _=>True) v220 x3_1) ∧ Aside0 (Below w.heap.size w w'))
   case atStart=>exact ⟨(y219),(0),fz,H',⟨Nat.le_refl _⟩,⟨by (with_reducible repeat (first|apply Kd.R_alloc|apply Kd.R_drewN|apply Kd.R_drew));exact HO221.out⟩,⟨by repeat (first|(with_reducible first|exact HB.out|apply below_alloc|apply pw_below_drewN|apply below_drew1)|exact HB.out)⟩⟩
   case round=>
    clear H'
    try clear c2
    try clear c2b0
    try clear c2b1
    try clear p2
    try clear c3
    try clear c3b0
    try clear c3b1
    try clear c4
    obtain ⟨x3_1,x4_1,rfl,HA,HK1,HO_3,HB⟩:=hrel
    cases gk with
    | zero=>exact absurd HA.out (by simp [laws_toStepS.l0])
    | succ k1=>
     have H:=HA.out
     clear HA
     simp only [laws_toStepS.l0] at H
     by_cases c6 : x4_1 < (l0.length : Int)
     ·rw [if_pos c6] at H
      have c6b0 : decide (x4_1 < (l0.length : Int)) = true:=decide_eq_true c6
      clear c6
      by_cases c7 : 0 ≤ x4_1
      ·rw [if_pos c7] at H
       have c7b0 : decide (0 ≤ x4_1) = true:=decide_eq_true c7
       clear c7
       obtain ⟨⟨t223,t224⟩,A8,H⟩:=bd H
       try dsimp only at H
       by_cases c9 : x4_1 < (x3_1.length : Int)
       ·rw [if_pos c9] at H
        have c9b0 : decide (x4_1 < (x3_1.length : Int)) = true:=decide_eq_true c9
        clear c9
        obtain ⟨y225,hy225⟩ : ∃ y_ : List (S73),y_ = (x3_1.set (x4_1 : Int).toNat (⟨t223,t224⟩ : S73)):=⟨_,rfl⟩
        replace H : (laws_toStepS.l0 k1 l0 y225 (wrap64 (x4_1 + 1))) = some r:=by first|(rw [hy225];with_reducible exact H)|(have H2_:=(Option.bind_some _ _).symm.trans H;rw [hy225];with_reducible exact H2_)|(have H2_:=(Option.bind_some _ _).symm.trans H;with_reducible exact H2_)|with_reducible exact H|(rw [hy225];exact H)|exact H
        have Ny225:=Aside0.mk hy225
        clear hy225
        have H':=Aside0.mk H
        clear H
        have p222 : 0 ≤ (x4_1 : Int):=of_decide_eq_true az
        have q222 : x4_1 < (l0.length : Int):=of_decide_eq_true az
        obtain ⟨ad222,e222,hx222_0,hx222_1⟩:=at_T93 HR0.out x4_1 p222 q222
        cases e222
        replace hx222_0:=(HB.out.cell (World.block_lt_of_cell? w _ hx222_0)).trans hx222_0
        replace hx222_1:=(HB.out.cell (World.block_lt_of_cell? w _ hx222_1)).trans hx222_1
        replace p222:=eq_true p222
        replace q222:=eq_true q222
        go_wp2_with (first|((with_reducible refine gate_callee (f:=85) rfl ?_);refine goesL_ (some 20) rfl rfl Try.func85 (by kernel_rfl) rfl #[.agg #[.int .i64 ((rd_T93 l0 x4_1).f0),.int .i64 ((rd_T93 l0 x4_1).f1)]] rfl mz ?_;(with_reducible refine (laws_toStep.calls ((rd_T93 l0 x4_1).f0) ((rd_T93 l0 x4_1).f1) t223 t224 _ A8.out).mono ?_);rintro e w11 ⟨rfl,hb⟩;refine ⟨_,rfl,?_⟩;have n0_:=Aside0.mk (Kd.R_below (rz HO_3.out) hb);have n1_:=Aside0.mk (below_step bz hb);clear HO_3 HB;have HO_3:=n0_;have HB:=n1_;clear n0_ n1_;(try clear hb);have p10 : 0 ≤ (x4_1 : Int):=of_decide_eq_true az;have q10 : (x4_1 : Int) < ((x3_1.length : Int) : Int):=of_decide_eq_true az;obtain ⟨go10,co10,eo10,gb10,gl10,cl10,HG10⟩:=Kd.R_form HO_3.out (by omega);(first|cases eo10|(injection eo10 with ea_ en_ ec_;(first|subst ea_|(injection ea_ with ea_;subst ea_));subst ec_;clear en_));have GB10:=Aside0.mk gb10;have GG10:=Aside0.mk HG10;clear gb10 gl10 HG10;obtain ⟨ce10,hcl10,hM10,hcc10,hfr10⟩:=Kd.R_elem HO_3.out z73 (x4_1 : Int) p10 q10;obtain rfl:=k73_openM hM10;have hx10_0 : w11.cell? ⟨go10,(x4_1 : Int).toNat * 2,none⟩ = some (.int .i64 ((rd_T73 x3_1 x4_1).f0)):=hcc10 0 _ rfl;have hx10_1 : w11.cell? ⟨go10,(x4_1 : Int).toNat * 2 + 1,none⟩ = some (.int .i64 ((rd_T73 x3_1 x4_1).f1)):=hcc10 1 _ rfl;have hf10_0 : w11.frozen? ⟨go10,(x4_1 : Int).toNat * 2,none⟩ = false:=hfr10 0;have hf10_1 : w11.frozen? ⟨go10,(x4_1 : Int).toNat * 2 + 1,none⟩ = false:=hfr10 1;clear hcl10 hcc10 hfr10 hM10;replace p10:=eq_true p10;replace q10:=eq_true q10;have HX12:=Aside0.mk (show Kd.R k73 73 w11 w.heap.size (fun _=>True) (.slice (some ⟨go10,0,none⟩) x3_1.length co10) x3_1 from (rz HO_3.out));obtain ⟨ce12,hcl12,hM12,hcc12,hfr12⟩:=Kd.R_elem HX12.out z73 (x4_1 : Int) (of_decide_eq_true az) (by have h_ : (x4_1 : Int) < ((x3_1.length : Int) : Int):=of_decide_eq_true az;first|exact h_|(have e_:=(Kd.R_reads' HO_3.out).1;omega)|simpa using h_);obtain rfl:=k73_openM hM12;have HP12:=Kd.R_seg HX12.out (x4_1 : Int) (of_decide_eq_true az) (by have h_ : (x4_1 : Int) < ((x3_1.length : Int) : Int):=of_decide_eq_true az;first|exact h_|(have e_:=(Kd.R_reads' HO_3.out).1;omega)|simpa using h_) (seg:=[.int .i64 t223,.int .i64 t224]) (j:=0) hcl12 hcc12 (show 2 ≤ 2 from by decide) (x':=(⟨t223,t224⟩ : S73)) (k73_mkM _ _ _ (⟨t223,t224⟩ : S73) ) (fun _ hk=>hk);have hx12_0:=hcc12 0 _ rfl;(try simp only [show (k73).sz = 2 from rfl,Nat.mul_one,Nat.add_zero] at hx12_0);have hf12_0:=hfr12 0;(try simp only [show (k73).sz = 2 from rfl,Nat.mul_one,Nat.add_zero] at hf12_0);have hx12_1:=hcc12 1 _ rfl;(try simp only [show (k73).sz = 2 from rfl,Nat.mul_one,Nat.add_zero] at hx12_1);have hf12_1:=hfr12 1;(try simp only [show (k73).sz = 2 from rfl,Nat.mul_one,Nat.add_zero] at hf12_1);clear hcl12 hcc12 hfr12 hM12)|((with_reducible refine gate_store (t:=73) (p:=21) rfl ?_);refine store_event (t:=73) (p:=21) (v:=?vo_w13) (w1:=((w11.setCell ⟨go10,(x4_1 : Int).toNat * 2,none⟩ (.int .i64 t223)).setCell ⟨go10,(x4_1 : Int).toNat * 2 + 1,none⟩ (.int .i64 t224))) ?hg ?ho ?hn ?hr ?_;(case ho=>rfl);(case hg=>rfl);(case hn=>rfl);(case hr=>first|(go_simp;done)|(go_simp;rfl));intro w13 hw;have hg : w11.grownBy w13 (some go10):=(by rw [hw];exact HP12.2);have hp_ : Kd.R k73 73 w13 w.heap.size (fun _=>True) (.slice (some ⟨go10,0,none⟩) x3_1.length co10) y225:=(by rw [hw,Ny225.out];exact HP12.1);clear HP12;have n0_:=Aside0.mk (hp_);have n1_:=Aside0.mk ((by rw [hw];exact below_set (below_set (HB.out) GB10.out) GB10.out : Below w.heap.size w w13));clear HO_3 HB;have HO_3:=n0_;have HB:=n1_;clear n0_ n1_;clear hg hw hp_))
        go_roundg k1
        case measure=>have:=HK1.out;omega
        case rel=>exact ⟨(y225),(wrap64 (x4_1 + 1)),fz,H',⟨by have:=HK1.out;omega⟩,⟨by (with_reducible repeat (first|apply Kd.R_alloc|apply Kd.R_drewN|apply Kd.R_drew));exact HO_3.out⟩,⟨by repeat (first|(with_reducible first|exact HB.out|apply below_alloc|apply pw_below_drewN|apply below_drew1)|exact HB.out)⟩⟩
       ·rw [if_neg c9] at H
        exact absurd H (by simp)
      ·rw [if_neg c7] at H
       exact absurd H (by simp)
     ·rw [if_neg c6] at H
      have c6b0 : decide (x4_1 < (l0.length : Int)) = false:=decide_eq_false c6
      clear c6
      obtain rfl:=Option.some.inj H
      go_wp2
      go_ret
      exact ⟨_,by first|rfl|(simp [errW_none,errW_some] <;> rfl)|(simp [*,errW_none,errW_some] <;> rfl),by (with_reducible repeat (first|apply Kd.R_alloc|apply Kd.R_drewN|apply Kd.R_drew));exact HO_3.out,by repeat (first|(with_reducible first|exact HB.out|apply below_alloc|apply pw_below_drewN|apply below_drew1)|exact HB.out)⟩
  ·rw [if_neg c3] at H
   exact absurd H (by simp)
 ·rw [if_neg c2] at H
  exact absurd H (by simp)
/-! ### laws_toPlan: function 12 -/
def laws_toPlan.f (k : Nat) (a0_0 : Int) (l0_1 : List (S93)) (l0_2 : List Int) : Option (Int × (List (S73)) × List Int):=(laws_toStepS.f k l0_1).bind fun t229=>((laws_toIntS.f k l0_2).bind fun t232=>(some (a0_0,t229,t232)))
theorem laws_toPlan.mono : ∀ a0 a1 a2 k,LeO (laws_toPlan.f k a0 a1 a2) (laws_toPlan.f (k + 1) a0 a1 a2):=by
 intro a0 a1 a2 k
 unfold laws_toPlan.f
 repeat' first
   | (with_reducible exact laws_toIntS.mono _ _)
   | (with_reducible exact laws_toStepS.mono _ _)
   | (with_reducible exact LeO.refl _)
   | (with_reducible exact LeO.none _)
   | (with_reducible refine LeO.ite ?_ ?_)
   | (with_reducible refine LeO.bind ?_ (fun _=>?_))
   | exact laws_toIntS.mono _ _
   | exact laws_toStepS.mono _ _
   | exact LeO.none _
   | refine LeO.ite ?_ ?_
   | refine LeO.bind ?_ (fun _=>?_)
set_option maxHeartbeats 8000000 in
set_option maxRecDepth 100000 in
theorem laws_toPlan.calls (k : Nat) (a0_0 : Int) (A0_1 : Option Addr) (c0_1 : Nat) (l0_1 : List (S93)) (A0_2 : Option Addr) (c0_2 : Nat) (l0_2 : List Int) (r1 : Int) (r2 : List (S73)) (r3 : List Int) (w : World) (hr0_1 : Kd.C k93 w A0_1 l0_1.length l0_1) (hc0_1 : l0_1.length ≤ c0_1) (hr0_2 : Kd.C (Kd.int .i64) w A0_2 l0_2.length l0_2) (hc0_2 : l0_2.length ≤ c0_2) (h : laws_toPlan.f k a0_0 l0_1 l0_2 = some (r1,r2,r3)) :
  Calls Try.prog 12 #[.agg #[.int .i64 a0_0,.slice A0_1 l0_1.length c0_1,.slice A0_2 l0_2.length c0_2]] w fun e w'=>∃ v1_ v2_ : Value,e = .returned (.agg #[.int .i64 r1,v1_,v2_]) ∧ Kd.R k73 73 w' w.heap.size (fun _=>True) v1_ r2 ∧ Kd.R (Kd.int .i64) 3 w' w.heap.size (fun _=>True) v2_ r3 ∧ Below w.heap.size w w':=by
 have hu25:=Try.underlying25
 have hu29:=Try.underlying29
 have HR0_1:=Aside0.mk hr0_1
 have HC0_1:=Aside0.mk hc0_1
 clear hr0_1 hc0_1
 have HR0_2:=Aside0.mk hr0_2
 have HC0_2:=Aside0.mk hc0_2
 clear hr0_2 hc0_2
 have HB:=Aside0.mk (Below.refl w.heap.size w)
 have H : ((laws_toStepS.f k l0_1).bind fun t229=>((laws_toIntS.f k l0_2).bind fun t232=>(some (a0_0,t229,t232)))) = some (r1,r2,r3):=h
 clear h
 obtain ⟨t229,A2,H⟩:=bd H
 obtain ⟨t232,A3,H⟩:=bd H
 simp only [Option.some.injEq,Prod.mk.injEq] at H
 obtain ⟨rfl,rfl,rfl⟩:=H
 go_enter Try.func12,Try.ntmps12
 go_wp2_with (first|((with_reducible refine gate_dst (N:=1) rfl ?_);refine box_event ?hg (N:=1) ?hd (cs:=#[.int .i64 a0_0,.slice A0_1 l0_1.length c0_1,.slice A0_2 l0_2.length c0_2]) (t:=25) ?hr ?_;(case hd=>rfl);(case hg=>rfl);(case hr=>first|(go_simp;done)|(go_simp;rfl));intro gb226 hg w4 hbox hb;have n0_:=Aside0.mk (below_step bz hb);have n1_:=Aside0.mk (hbox);have n2_:=Aside0.mk ((by rw [hg];exact (below_size bz) : w.heap.size ≤ gb226));have n3_:=Aside0.mk ((by rw [hg];exact (below_size bz) : w.heap.size ≤ gb226));clear HB;have HB:=n0_;have BK226:=n1_;have GW226:=n2_;have GE226:=n3_;clear n0_ n1_ n2_ n3_;clear hb hbox hg)|((with_reducible refine gate_dst (N:=2) rfl ?_);refine box_event ?hg (N:=2) ?hd (cs:=#[.int .i64 0,.slice none 0 0,.slice none 0 0]) (t:=29) ?hr ?_;(case hd=>rfl);(case hg=>rfl);(case hr=>first|(go_simp;done)|(go_simp;rfl));intro gb227 hg w5 hbox hb;have n0_:=Aside0.mk (kb BK226.out hb);have n1_:=Aside0.mk (below_step bs hb);have n2_:=Aside0.mk (hbox);have n3_:=Aside0.mk ((by rw [hg];exact (below_size bs) : w.heap.size ≤ gb227));have n4_:=Aside0.mk ((by rw [hg];exact (below_size bs) : w.heap.size ≤ gb227));have n5_:=Aside0.mk (kn hg BK226.out);have n6_:=Aside0.mk (km hg BK226.out);clear BK226 HB;have BK226:=n0_;have HB:=n1_;have BK227:=n2_;have GW227:=n3_;have GE227:=n4_;have NB226_227:=n5_;have NB227_226:=n6_;clear n0_ n1_ n2_ n3_ n4_ n5_ n6_;clear hb hbox hg)|((with_reducible refine gate_dst (N:=3) rfl ?_);refine box_event ?hg (N:=3) ?hd (cs:=#[.int .i64 0,.slice none 0 0,.slice none 0 0]) (t:=29) ?hr ?_;(case hd=>rfl);(case hg=>rfl);(case hr=>first|(go_simp;done)|(go_simp;rfl));intro gb228 hg w6 hbox hb;have n0_:=Aside0.mk (kb BK226.out hb);have n1_:=Aside0.mk (kb BK227.out hb);have n2_:=Aside0.mk (below_step bs hb);have n3_:=Aside0.mk (hbox);have n4_:=Aside0.mk ((by rw [hg];exact (below_size bs) : w.heap.size ≤ gb228));have n5_:=Aside0.mk ((by rw [hg];exact (below_size bs) : w.heap.size ≤ gb228));have n6_:=Aside0.mk (kn hg BK226.out);have n7_:=Aside0.mk (km hg BK226.out);have n8_:=Aside0.mk (kn hg BK227.out);have n9_:=Aside0.mk (km hg BK227.out);clear BK226 BK227 HB;have BK226:=n0_;have BK227:=n1_;have HB:=n2_;have BK228:=n3_;have GW228:=n4_;have GE228:=n5_;have NB226_228:=n6_;have NB228_226:=n7_;have NB227_228:=n8_;have NB228_227:=n9_;clear n0_ n1_ n2_ n3_ n4_ n5_ n6_ n7_ n8_ n9_;clear hb hbox hg;have hnb7:=NB226_227.out;have hnc7:=NB227_226.out;have hnb8:=NB226_228.out;have hnc8:=NB228_226.out;have hcz9_0 : w6.cell? ⟨gb226,0,none⟩ = some (.int .i64 a0_0):=(blk_cell BK226.out 0).trans rfl;have hcz9_1 : w6.cell? ⟨gb226,1,none⟩ = some (.slice A0_1 l0_1.length c0_1):=(blk_cell BK226.out 1).trans rfl;have hcz9_2 : w6.cell? ⟨gb226,2,none⟩ = some (.slice A0_2 l0_2.length c0_2):=(blk_cell BK226.out 2).trans rfl;have hfz9_0:=blk_frozen BK226.out 0;have hfz9_1:=blk_frozen BK226.out 1;have hfz9_2:=blk_frozen BK226.out 2;have hnb10:=NB228_227.out;have hnc10:=NB227_228.out;have hcz11_0 : w6.cell? ⟨gb228,0,none⟩ = some (.int .i64 0):=(blk_cell BK228.out 0).trans rfl;have hcz11_1 : w6.cell? ⟨gb228,1,none⟩ = some (.slice none 0 0):=(blk_cell BK228.out 1).trans rfl;have hcz11_2 : w6.cell? ⟨gb228,2,none⟩ = some (.slice none 0 0):=(blk_cell BK228.out 2).trans rfl;have hfz11_0:=blk_frozen BK228.out 0;have hfz11_1:=blk_frozen BK228.out 1;have hfz11_2:=blk_frozen BK228.out 2)|((with_reducible refine gate_callee (f:=43) rfl ?_);refine goesL_ (some 9) rfl rfl Try.func43 (by kernel_rfl) rfl #[.slice A0_1 l0_1.length c0_1] rfl mz ?_;(with_reducible refine (laws_toStepS.calls k _ _ l0_1 t229 _ ?side1 ?side2 A2.out).mono ?_);(case side1=>exact Kd.C_below HR0_1.out bs);(case side2=>exact HC0_1.out);rintro e w12 ⟨v230,rfl,ho0,hb⟩;refine ⟨_,rfl,?_⟩;have n0_:=Aside0.mk (Kd.R_lower ho0 (below_size bs));have n1_:=Aside0.mk (blk_below (g:=gb226) (o:=.cells #[.int .i64 a0_0,.slice A0_1 l0_1.length c0_1,.slice A0_2 l0_2.length c0_2] 25 (0,0)) (by (with_reducible repeat (first|refine blk_drewN ?_ _|refine blk_drew ?_|refine blk_alloc ?_ _));refine blk_far ?_ NB226_228.out _;(with_reducible repeat (first|refine blk_drewN ?_ _|refine blk_drew ?_|refine blk_alloc ?_ _));exact BK226.out) hb);have n2_:=Aside0.mk (blk_below (g:=gb227) (o:=.cells #[.int .i64 0,.slice none 0 0,.slice none 0 0] 29 (0,0)) (by (with_reducible repeat (first|refine blk_drewN ?_ _|refine blk_drew ?_|refine blk_alloc ?_ _));refine blk_far ?_ NB227_228.out _;(with_reducible repeat (first|refine blk_drewN ?_ _|refine blk_drew ?_|refine blk_alloc ?_ _));exact BK227.out) hb);have n3_:=Aside0.mk (blk_below (g:=gb228) (o:=.cells #[.int .i64 a0_0,.slice none 0 0,.slice none 0 0] 29 (0,0)) (by (with_reducible repeat (first|refine blk_drewN ?_ _|refine blk_drew ?_|refine blk_alloc ?_ _));refine blk_put (cs:=#[.int .i64 0,.slice none 0 0,.slice none 0 0]) ?_ 0 _ rfl;(with_reducible repeat (first|refine blk_drewN ?_ _|refine blk_drew ?_|refine blk_alloc ?_ _));exact BK228.out) hb);have n4_:=Aside0.mk (below_step bs hb);clear BK226 BK227 BK228 HB;have HO231:=n0_;have BK226:=n1_;have BK227:=n2_;have BK228:=n3_;have HB:=n4_;clear n0_ n1_ n2_ n3_ n4_;(try clear hb);(try clear ho0);obtain ⟨Ao13,co13,eo13⟩:=Kd.R_slice HO231.out;subst eo13;have hcz14_0 : w12.cell? ⟨gb228,0,none⟩ = some (.int .i64 a0_0):=(blk_cell BK228.out 0).trans rfl;have hcz14_1 : w12.cell? ⟨gb228,1,none⟩ = some (.slice none 0 0):=(blk_cell BK228.out 1).trans rfl;have hcz14_2 : w12.cell? ⟨gb228,2,none⟩ = some (.slice none 0 0):=(blk_cell BK228.out 2).trans rfl;have hfz14_0:=blk_frozen BK228.out 0;have hfz14_1:=blk_frozen BK228.out 1;have hfz14_2:=blk_frozen BK228.out 2;have hcz15_0 : w12.cell? ⟨gb226,0,none⟩ = some (.int .i64 a0_0):=(blk_cell BK226.out 0).trans rfl;have hcz15_1 : w12.cell? ⟨gb226,1,none⟩ = some (.slice A0_1 l0_1.length c0_1):=(blk_cell BK226.out 1).trans rfl;have hcz15_2 : w12.cell? ⟨gb226,2,none⟩ = some (.slice A0_2 l0_2.length c0_2):=(blk_cell BK226.out 2).trans rfl;have hfz15_0:=blk_frozen BK226.out 0;have hfz15_1:=blk_frozen BK226.out 1;have hfz15_2:=blk_frozen BK226.out 2)|((with_reducible refine gate_callee (f:=18) rfl ?_);refine goesL_ (some 13) rfl rfl Try.func18 (by kernel_rfl) rfl #[.slice A0_2 l0_2.length c0_2] rfl mz ?_;(with_reducible refine (laws_toIntS.calls k _ _ l0_2 t232 _ ?side1 ?side2 A3.out).mono ?_);(case side1=>exact Kd.C_below HR0_2.out bs);(case side2=>exact HC0_2.out);rintro e w16 ⟨v233,rfl,ho0,hb⟩;refine ⟨_,rfl,?_⟩;have n0_:=Aside0.mk (Kd.R_below (by (with_reducible repeat (first|apply Kd.R_alloc|apply Kd.R_drewN|apply Kd.R_drew));exact (Kd.R_mono (Kd.R_far (p:=⟨gb228,1,none⟩) (Kd.R_types HO231.out BK228.out (by decide)) (fun _ hk=>hk.2) (.slice Ao13 t229.length co13)) (fun _ h_=>h_.1))) hb);have n1_:=Aside0.mk (Kd.R_lower ho0 (below_size bs));have n2_:=Aside0.mk (blk_below (g:=gb226) (o:=.cells #[.int .i64 a0_0,.slice A0_1 l0_1.length c0_1,.slice A0_2 l0_2.length c0_2] 25 (0,0)) (by (with_reducible repeat (first|refine blk_drewN ?_ _|refine blk_drew ?_|refine blk_alloc ?_ _));refine blk_far ?_ NB226_228.out _;(with_reducible repeat (first|refine blk_drewN ?_ _|refine blk_drew ?_|refine blk_alloc ?_ _));exact BK226.out) hb);have n3_:=Aside0.mk (blk_below (g:=gb227) (o:=.cells #[.int .i64 0,.slice none 0 0,.slice none 0 0] 29 (0,0)) (by (with_reducible repeat (first|refine blk_drewN ?_ _|refine blk_drew ?_|refine blk_alloc ?_ _));refine blk_far ?_ NB227_228.out _;(with_reducible repeat (first|refine blk_drewN ?_ _|refine blk_drew ?_|refine blk_alloc ?_ _));exact BK227.out) hb);have n4_:=Aside0.mk (blk_below (g:=gb228) (o:=.cells #[.int .i64 a0_0,.slice Ao13 t229.length co13,.slice none 0 0] 29 (0,0)) (by (with_reducible repeat (first|refine blk_drewN ?_ _|refine blk_drew ?_|refine blk_alloc ?_ _));refine blk_put (cs:=#[.int .i64 a0_0,.slice none 0 0,.slice none 0 0]) ?_ 1 _ rfl;(with_reducible repeat (first|refine blk_drewN ?_ _|refine blk_drew ?_|refine blk_alloc ?_ _));exact BK228.out) hb);have n5_:=Aside0.mk (below_step bs hb);clear HO231 BK226 BK227 BK228 HB;have HO231:=n0_;have HO234:=n1_;have BK226:=n2_;have BK227:=n3_;have BK228:=n4_;have HB:=n5_;clear n0_ n1_ n2_ n3_ n4_ n5_;(try clear hb);(try clear ho0);obtain ⟨Ao17,co17,eo17⟩:=Kd.R_slice HO234.out;subst eo17;have hcz18_0 : w16.cell? ⟨gb228,0,none⟩ = some (.int .i64 a0_0):=(blk_cell BK228.out 0).trans rfl;have hcz18_1 : w16.cell? ⟨gb228,1,none⟩ = some (.slice Ao13 t229.length co13):=(blk_cell BK228.out 1).trans rfl;have hcz18_2 : w16.cell? ⟨gb228,2,none⟩ = some (.slice none 0 0):=(blk_cell BK228.out 2).trans rfl;have hfz18_0:=blk_frozen BK228.out 0;have hfz18_1:=blk_frozen BK228.out 1;have hfz18_2:=blk_frozen BK228.out 2;have hcz19_0 : w16.cell? ⟨gb227,0,none⟩ = some (.int .i64 0):=(blk_cell BK227.out 0).trans rfl;have hcz19_1 : w16.cell? ⟨gb227,1,none⟩ = some (.slice none 0 0):=(blk_cell BK227.out 1).trans rfl;have hcz19_2 : w16.cell? ⟨gb227,2,none⟩ = some (.slice none 0 0):=(blk_cell BK227.out 2).trans rfl;have hfz19_0:=blk_frozen BK227.out 0;have hfz19_1:=blk_frozen BK227.out 1;have hfz19_2:=blk_frozen BK227.out 2))
 refine bodyPost_ret (results_cell_row rfl _ _ gb227 29 #[.int .i64 a0_0,.slice Ao13 t229.length co13,.slice Ao17 t232.length co17] (0,0) _ rfl (by (with_reducible repeat (first|refine blk_drewN ?_ _|refine blk_drew ?_|refine blk_alloc ?_ _));refine blk_put (cs:=#[.int .i64 a0_0,.slice Ao13 t229.length co13,.slice none 0 0]) ?_ 2 _ rfl;(with_reducible repeat (first|refine blk_drewN ?_ _|refine blk_drew ?_|refine blk_alloc ?_ _));refine blk_put (cs:=#[.int .i64 a0_0,.slice none 0 0,.slice none 0 0]) ?_ 1 _ rfl;(with_reducible repeat (first|refine blk_drewN ?_ _|refine blk_drew ?_|refine blk_alloc ?_ _));refine blk_put (cs:=#[.int .i64 0,.slice none 0 0,.slice none 0 0]) ?_ 0 _ rfl;(with_reducible repeat (first|refine blk_drewN ?_ _|refine blk_drew ?_|refine blk_alloc ?_ _));refine blk_far ?_ NB227_228.out _;(with_reducible repeat (first|refine blk_drewN ?_ _|refine blk_drew ?_|refine blk_alloc ?_ _));exact BK227.out) Try.underlying29 rfl (by kernel_rfl)) rfl ?_
 exact ⟨_,_,by first|rfl|(simp [errW_none,errW_some] <;> rfl)|(simp [*,errW_none,errW_some] <;> rfl),by (with_reducible repeat (first|apply Kd.R_alloc|apply Kd.R_drewN|apply Kd.R_drew));exact Kd.R_mono (Kd.R_far (p:=⟨gb227,2,none⟩) (Kd.R_far (p:=⟨gb227,1,none⟩) (Kd.R_far (p:=⟨gb227,0,none⟩) (Kd.R_far (p:=⟨gb228,2,none⟩) (Kd.R_types (Kd.R_types HO231.out BK228.out (by decide)) BK227.out (by decide)) (fun _ hk=>hk.1.2) (.slice Ao17 t232.length co17)) (fun _ hk=>hk.2) (.int .i64 a0_0)) (fun _ hk=>hk.2) (.slice Ao13 t229.length co13)) (fun _ hk=>hk.2) (.slice Ao17 t232.length co17)) (fun _ hk=>trivial),by (with_reducible repeat (first|apply Kd.R_alloc|apply Kd.R_drewN|apply Kd.R_drew));exact Kd.R_mono (Kd.R_far (p:=⟨gb227,2,none⟩) (Kd.R_far (p:=⟨gb227,1,none⟩) (Kd.R_far (p:=⟨gb227,0,none⟩) (Kd.R_far (p:=⟨gb228,2,none⟩) (Kd.R_types (Kd.R_types HO234.out BK228.out (by decide)) BK227.out (by decide)) (fun _ hk=>hk.1.2) (.slice Ao17 t232.length co17)) (fun _ hk=>hk.2) (.int .i64 a0_0)) (fun _ hk=>hk.2) (.slice Ao13 t229.length co13)) (fun _ hk=>hk.2) (.slice Ao17 t232.length co17)) (fun _ hk=>trivial),by repeat (first|(with_reducible first|exact HB.out|apply below_alloc|apply pw_below_drewN|apply below_drew1|refine below_set ?_ GE226.out|refine below_set ?_ GE227.out|refine below_set ?_ GE228.out)|exact HB.out)⟩
/-! ### impl_Plan_exponents: function 72 -/
mutual
def impl_Plan_exponents.l0 : Nat → List (List Int) → Int → Int → Int → List (S73) → List Int → Option ((List (List Int)))
 | 0,_,_,_,_,_,_=>none
 | k + 1,x3,x15,x16,x1000,x1001,x1002=>if x16 < x15 then (if 0 ≤ x1000 then (if (x1000 : Int).toNat ≤ 35184372088832 then ((some (List.replicate (x1000 : Int).toNat 0 : List Int)).bind fun y238=>(if 0 ≤ x16 then (if x16 < (y238.length : Int) then (if x3.length < 5864062014805 then (impl_Plan_exponents.l0 k (x3 ++ [(y238.set (x16 : Int).toNat 1)]) x15 (wrap64 (x16 + 1)) x1000 x1001 x1002) else (none)) else (none)) else (none))) else (none)) else (none)) else (impl_Plan_exponents.l1 k x3 x1001 (x1001.length : Int) 0)
def impl_Plan_exponents.l1 : Nat → List (List Int) → List (S73) → Int → Int → Option ((List (List Int)))
 | 0,_,_,_,_=>none
 | k + 1,x3,x35,x36,x37=>if x37 < x36 then (if 0 ≤ x37 then (if x37 < (x35.length : Int) then (if 0 ≤ ((rd_T73 x35 x37).f0) then (if ((rd_T73 x35 x37).f0) < (x3.length : Int) then (impl_Plan_exponents.l2 k x3 (([] : List Int)) x35 x36 x37 (rd_L3 x3 ((rd_T73 x35 x37).f0)) ((rd_L3 x3 ((rd_T73 x35 x37).f0)).length : Int) 0 ((rd_T73 x35 x37).f0) ((rd_T73 x35 x37).f1)) else (none)) else (none)) else (none)) else (none)) else (some x3)
def impl_Plan_exponents.l2 : Nat → List (List Int) → List Int → List (S73) → Int → Int → List Int → Int → Int → Int → Int → Option ((List (List Int)))
 | 0,_,_,_,_,_,_,_,_,_,_=>none
 | k + 1,x3,x8,x35,x36,x37,x46,x47,x48,x247000,x247001=>if x48 < x47 then (if 0 ≤ x48 then (if x48 < (x46.length : Int) then (if 0 ≤ x247001 then (if x247001 < (x3.length : Int) then (if x48 < ((rd_L3 x3 x247001).length : Int) then (if x8.length < 17592186044416 then (impl_Plan_exponents.l2 k x3 (x8 ++ [mn (wrap64 ((rd x46 x48) + (rd (rd_L3 x3 x247001) x48))) 1000001]) x35 x36 x37 x46 x47 (wrap64 (x48 + 1)) x247000 x247001) else (none)) else (none)) else (none)) else (none)) else (none)) else (none)) else (if x3.length < 5864062014805 then (impl_Plan_exponents.l1 k (x3 ++ [x8]) x35 x36 (wrap64 (x37 + 1))) else (none))
end
def impl_Plan_exponents.f (k : Nat) (a0_0 : Int) (l0_1 : List (S73)) (l0_2 : List Int) : Option ((List (List Int))):=impl_Plan_exponents.l0 k (([] : List (List Int))) a0_0 0 a0_0 l0_1 l0_2
theorem impl_Plan_exponents.mono_l : ∀ k,(∀ y0 y1 y2 y3 y4 y5,LeO (impl_Plan_exponents.l0 k y0 y1 y2 y3 y4 y5) (impl_Plan_exponents.l0 (k + 1) y0 y1 y2 y3 y4 y5)) ∧ (∀ y0 y1 y2 y3,LeO (impl_Plan_exponents.l1 k y0 y1 y2 y3) (impl_Plan_exponents.l1 (k + 1) y0 y1 y2 y3)) ∧ (∀ y0 y1 y2 y3 y4 y5 y6 y7 y8 y9,LeO (impl_Plan_exponents.l2 k y0 y1 y2 y3 y4 y5 y6 y7 y8 y9) (impl_Plan_exponents.l2 (k + 1) y0 y1 y2 y3 y4 y5 y6 y7 y8 y9))
 | 0=>⟨fun _ _ _ _ _ _ r h=>by simp [impl_Plan_exponents.l0] at h,fun _ _ _ _ r h=>by simp [impl_Plan_exponents.l1] at h,fun _ _ _ _ _ _ _ _ _ _ r h=>by simp [impl_Plan_exponents.l2] at h⟩
 | k + 1=>by
  obtain ⟨ih0,ih1,ih2⟩:=impl_Plan_exponents.mono_l k
  refine ⟨?_,?_,?_⟩
  ·intro y0 y1 y2 y3 y4 y5
   unfold impl_Plan_exponents.l0
   repeat' first
   | (with_reducible exact ih0 _ _ _ _ _ _)
   | (with_reducible exact ih1 _ _ _ _)
   | (with_reducible exact ih2 _ _ _ _ _ _ _ _ _ _)
   | (with_reducible exact LeO.refl _)
   | (with_reducible exact LeO.none _)
   | (with_reducible refine LeO.ite ?_ ?_)
   | (with_reducible refine LeO.bind ?_ (fun _=>?_))
   | exact ih0 _ _ _ _ _ _
   | exact ih1 _ _ _ _
   | exact ih2 _ _ _ _ _ _ _ _ _ _
   | exact LeO.none _
   | refine LeO.ite ?_ ?_
   | refine LeO.bind ?_ (fun _=>?_)
  ·intro y0 y1 y2 y3
   unfold impl_Plan_exponents.l1
   repeat' first
   | (with_reducible exact ih0 _ _ _ _ _ _)
   | (with_reducible exact ih1 _ _ _ _)
   | (with_reducible exact ih2 _ _ _ _ _ _ _ _ _ _)
   | (with_reducible exact LeO.refl _)
   | (with_reducible exact LeO.none _)
   | (with_reducible refine LeO.ite ?_ ?_)
   | (with_reducible refine LeO.bind ?_ (fun _=>?_))
   | exact ih0 _ _ _ _ _ _
   | exact ih1 _ _ _ _
   | exact ih2 _ _ _ _ _ _ _ _ _ _
   | exact LeO.none _
   | refine LeO.ite ?_ ?_
   | refine LeO.bind ?_ (fun _=>?_)
  ·intro y0 y1 y2 y3 y4 y5 y6 y7 y8 y9
   unfold impl_Plan_exponents.l2
   repeat' first
   | (with_reducible exact ih0 _ _ _ _ _ _)
   | (with_reducible exact ih1 _ _ _ _)
   | (with_reducible exact ih2 _ _ _ _ _ _ _ _ _ _)
   | (with_reducible exact LeO.refl _)
   | (with_reducible exact LeO.none _)
   | (with_reducible refine LeO.ite ?_ ?_)
   | (with_reducible refine LeO.bind ?_ (fun _=>?_))
   | exact ih0 _ _ _ _ _ _
   | exact ih1 _ _ _ _
   | exact ih2 _ _ _ _ _ _ _ _ _ _
   | exact LeO.none _
   | refine LeO.ite ?_ ?_
   | refine LeO.bind ?_ (fun _=>?_)
theorem impl_Plan_exponents.mono : ∀ a0 a1 a2 k,LeO (impl_Plan_exponents.f k a0 a1 a2) (impl_Plan_exponents.f (k + 1) a0 a1 a2):=by
 intro a0 a1 a2 k
 obtain ⟨ih0,ih1,ih2⟩:=impl_Plan_exponents.mono_l k
 unfold impl_Plan_exponents.f
 repeat' first
   | (with_reducible exact ih0 _ _ _ _ _ _)
   | (with_reducible exact ih1 _ _ _ _)
   | (with_reducible exact ih2 _ _ _ _ _ _ _ _ _ _)
   | (with_reducible exact LeO.refl _)
   | (with_reducible exact LeO.none _)
   | (with_reducible refine LeO.ite ?_ ?_)
   | (with_reducible refine LeO.bind ?_ (fun _=>?_))
   | exact ih0 _ _ _ _ _ _
   | exact ih1 _ _ _ _
   | exact ih2 _ _ _ _ _ _ _ _ _ _
   | exact LeO.none _
   | refine LeO.ite ?_ ?_
   | refine LeO.bind ?_ (fun _=>?_)
set_option maxHeartbeats 8000000 in
set_option maxRecDepth 100000 in
theorem impl_Plan_exponents.calls (k : Nat) (g0_ : Nat) (a0_0 : Int) (A0_1 : Option Addr) (c0_1 : Nat) (l0_1 : List (S73)) (A0_2 : Option Addr) (c0_2 : Nat) (l0_2 : List Int) (r : List (List Int)) (w : World) (hx0_ : w.heap[g0_]? = some (.cells #[.int .i64 a0_0,.slice A0_1 l0_1.length c0_1,.slice A0_2 l0_2.length c0_2] 29 (0,0))) (hr0_1 : Kd.C k73 w A0_1 l0_1.length l0_1) (hc0_1 : l0_1.length ≤ c0_1) (hr0_2 : Kd.C (Kd.int .i64) w A0_2 l0_2.length l0_2) (hc0_2 : l0_2.length ≤ c0_2) (h : impl_Plan_exponents.f k a0_0 l0_1 l0_2 = some r) :
  Calls Try.prog 72 #[.pointer (some ⟨g0_,0,none⟩)] w fun e w'=>∃ v0_ : Value,e = .returned (v0_) ∧ Kd.S (Kd.slice 3 (Kd.int .i64)) 23 w' w.heap.size (fun _=>True) v0_ r ∧ Below w.heap.size w w':=by
 have hu73:=Try.underlying73
 have HR0_1:=Aside0.mk hr0_1
 have HC0_1:=Aside0.mk hc0_1
 clear hr0_1 hc0_1
 have HR0_2:=Aside0.mk hr0_2
 have HC0_2:=Aside0.mk hc0_2
 clear hr0_2 hc0_2
 have BK0:=Aside0.mk hx0_
 clear hx0_
 have HB:=Aside0.mk (Below.refl w.heap.size w)
 have H : (impl_Plan_exponents.l0 k (([] : List (List Int))) a0_0 0 a0_0 l0_1 l0_2) = some r:=h
 clear h
 obtain ⟨y235,hy235⟩ : ∃ y_ : List (List Int),y_ = (([] : List (List Int))):=⟨_,rfl⟩
 replace H : (impl_Plan_exponents.l0 k y235 a0_0 0 a0_0 l0_1 l0_2) = some r:=by first|(rw [hy235];with_reducible exact H)|(have H2_:=(Option.bind_some _ _).symm.trans H;rw [hy235];with_reducible exact H2_)|(have H2_:=(Option.bind_some _ _).symm.trans H;with_reducible exact H2_)|with_reducible exact H|(rw [hy235];exact H)|exact H
 have Ny235:=Aside0.mk hy235
 clear hy235
 have H':=Aside0.mk H
 clear H
 go_enter Try.func72,Try.ntmps72
 go_wp2_with (first|((with_reducible refine gate_dst (N:=11) rfl ?_);refine Kd.S_lit (Kd.slice 3 (Kd.int .i64)) _ 23 ?hg (N:=11) ?hd (xs:=([] : List (List Int))) (inner:=[]) (ok:=fun _=>True) (okp:=fun _=>True) ?hr ?hp (fun _ hk=>hk) trivial (Below.refl _ _) (Nat.le_refl _) (by simp) ?_;(case hd=>rfl);(case hg=>rfl);(case hr=>first|(go_simp;done)|(go_simp;rfl));(case hp=>exact (Reps.none _ _));intro v236 w2 ho3 hb hg_ hnew_;clear hg_ hnew_;(first|rw [← Ny235.out] at ho3|(simp only [Int.reduceToNat] at ho3;rw [← Ny235.out] at ho3));have n0_:=Aside0.mk (Kd.S_lower ho3 (below_size bs));have n1_:=Aside0.mk (kb BK0.out hb);have n2_:=Aside0.mk (below_step bs hb);clear BK0 HB;have HO237:=n0_;have BK0:=n1_;have HB:=n2_;clear n0_ n1_ n2_;clear hb ho3;have hcz4_0 : w2.cell? ⟨g0_,0,none⟩ = some (.int .i64 a0_0):=(blk_cell BK0.out 0).trans rfl;have hcz4_1 : w2.cell? ⟨g0_,1,none⟩ = some (.slice A0_1 l0_1.length c0_1):=(blk_cell BK0.out 1).trans rfl;have hcz4_2 : w2.cell? ⟨g0_,2,none⟩ = some (.slice A0_2 l0_2.length c0_2):=(blk_cell BK0.out 2).trans rfl;have hfz4_0:=blk_frozen BK0.out 0;have hfz4_1:=blk_frozen BK0.out 1;have hfz4_2:=blk_frozen BK0.out 2))
 go_loopg [3,16] k (fun kq v3 v16 w'=>∃ (x3_1 : List (List Int)) (x16_1 : Int),v16 = .int .i64 x16_1 ∧ Aside0 (impl_Plan_exponents.l0 kq x3_1 a0_0 x16_1 a0_0 l0_1 l0_2 = some r) ∧ Aside0 (kq ≤ k) ∧ Aside0 (Kd.S (Kd.slice 3 (Kd.int .i64)) 23 w' w.heap.size (fun _=>True) v3 x3_1) ∧ Aside0 (w'.heap[g0_]? = some (.cells #[.int .i64 a0_0,(.slice A0_1 l0_1.length c0_1),(.slice A0_2 l0_2.length c0_2)] 29 (0,0))) ∧ Aside0 (Below w.heap.size w w'))
 case atStart=>exact ⟨(y235),(0),fz,H',⟨Nat.le_refl _⟩,⟨by (with_reducible repeat (first|apply Kd.S_alloc|apply Kd.S_drewN|apply Kd.S_drew));exact HO237.out⟩,⟨by (with_reducible repeat (first|refine blk_drewN ?_ _|refine blk_drew ?_|refine blk_alloc ?_ _));exact BK0.out⟩,⟨by repeat (first|(with_reducible first|exact HB.out|apply below_alloc|apply pw_below_drewN|apply below_drew1|refine below_set ?_ GE0.out)|exact HB.out)⟩⟩
 case round=>
  clear H'
  try clear p2
  try clear hcz4_0
  try clear hcz4_1
  try clear hcz4_2
  try clear hfz4_0
  try clear hfz4_1
  try clear hfz4_2
  obtain ⟨x3_1,x16_1,rfl,HA,HK1,HO_3,BK0,HB⟩:=hrel
  cases gk with
  | zero=>exact absurd HA.out (by simp [impl_Plan_exponents.l0])
  | succ k1=>
   have H:=HA.out
   clear HA
   simp only [impl_Plan_exponents.l0] at H
   by_cases c5 : x16_1 < a0_0
   ·rw [if_pos c5] at H
    have c5b0 : decide (x16_1 < a0_0) = true:=decide_eq_true c5
    clear c5
    by_cases c6 : 0 ≤ a0_0
    ·rw [if_pos c6] at H
     have c6b0:=eq_true c6
     have c6b1 : decide (0 ≤ a0_0) = true:=decide_eq_true c6
     clear c6
     by_cases c7 : (a0_0 : Int).toNat ≤ 35184372088832
     ·rw [if_pos c7] at H
      have c7b0:=eq_true c7
      have c7b1 : decide ((a0_0 : Int).toNat ≤ 35184372088832) = true:=decide_eq_true c7
      clear c7
      obtain ⟨y238,hy238⟩ : ∃ y_ : List Int,y_ = (List.replicate (a0_0 : Int).toNat 0):=⟨_,rfl⟩
      replace H : (if 0 ≤ x16_1 then (if x16_1 < (y238.length : Int) then (if x3_1.length < 5864062014805 then (impl_Plan_exponents.l0 k1 (x3_1 ++ [(y238.set (x16_1 : Int).toNat 1)]) a0_0 (wrap64 (x16_1 + 1)) a0_0 l0_1 l0_2) else (none)) else (none)) else (none)) = some r:=by first|(rw [hy238];with_reducible exact H)|(have H2_:=(Option.bind_some _ _).symm.trans H;rw [hy238];with_reducible exact H2_)|(have H2_:=(Option.bind_some _ _).symm.trans H;with_reducible exact H2_)|with_reducible exact H|(rw [hy238];exact H)|exact H
      have Ny238:=Aside0.mk hy238
      clear hy238
      by_cases c8 : 0 ≤ x16_1
      ·rw [if_pos c8] at H
       have c8b0 : decide (0 ≤ x16_1) = true:=decide_eq_true c8
       clear c8
       by_cases c9 : x16_1 < (y238.length : Int)
       ·rw [if_pos c9] at H
        have c9b0 : decide (x16_1 < (y238.length : Int)) = true:=decide_eq_true c9
        clear c9
        obtain ⟨y241,hy241⟩ : ∃ y_ : List Int,y_ = (y238.set (x16_1 : Int).toNat 1):=⟨_,rfl⟩
        replace H : (if x3_1.length < 5864062014805 then (impl_Plan_exponents.l0 k1 (x3_1 ++ [y241]) a0_0 (wrap64 (x16_1 + 1)) a0_0 l0_1 l0_2) else (none)) = some r:=by first|(rw [hy241];with_reducible exact H)|(have H2_:=(Option.bind_some _ _).symm.trans H;rw [hy241];with_reducible exact H2_)|(have H2_:=(Option.bind_some _ _).symm.trans H;with_reducible exact H2_)|with_reducible exact H|(rw [hy241];exact H)|exact H
        have Ny241:=Aside0.mk hy241
        clear hy241
        by_cases c11 : x3_1.length < 5864062014805
        ·rw [if_pos c11] at H
         have LMc11:=Aside0.mk c11
         clear c11
         obtain ⟨y242,hy242⟩ : ∃ y_ : List (List Int),y_ = (x3_1 ++ [y241]):=⟨_,rfl⟩
         replace H : (impl_Plan_exponents.l0 k1 y242 a0_0 (wrap64 (x16_1 + 1)) a0_0 l0_1 l0_2) = some r:=by first|(rw [hy242];with_reducible exact H)|(have H2_:=(Option.bind_some _ _).symm.trans H;rw [hy242];with_reducible exact H2_)|(have H2_:=(Option.bind_some _ _).symm.trans H;with_reducible exact H2_)|with_reducible exact H|(rw [hy242];exact H)|exact H
         have Ny242:=Aside0.mk hy242
         clear hy242
         have H':=Aside0.mk H
         clear H
         have hcz12_0 : wr.cell? ⟨g0_,0,none⟩ = some (.int .i64 a0_0):=(blk_cell BK0.out 0).trans rfl
         have hcz12_1 : wr.cell? ⟨g0_,1,none⟩ = some (.slice A0_1 l0_1.length c0_1):=(blk_cell BK0.out 1).trans rfl
         have hcz12_2 : wr.cell? ⟨g0_,2,none⟩ = some (.slice A0_2 l0_2.length c0_2):=(blk_cell BK0.out 2).trans rfl
         have hfz12_0:=blk_frozen BK0.out 0
         have hfz12_1:=blk_frozen BK0.out 1
         have hfz12_2:=blk_frozen BK0.out 2
         go_wp2_with (first|((with_reducible refine gate_dst (N:=23) rfl ?_);refine Kd.R_make (Kd.int .i64) _ 3 rfl (N:=23) rfl 23 _ _ rfl a0_0 rfl rfl Try.underlying23 (.int .i64 0) 8 info3 rfl (by decide) (by omega) 0 (ok:=fun _=>True) (okp:=fun _=>True) rfl (fun _ hk=>hk) trivial (of_decide_eq_true az) (Nat.le_trans (Nat.mul_le_mul_right _ (of_decide_eq_true az : a0_0.toNat ≤ 35184372088832)) (by omega)) (Below.refl _ _) (Nat.le_refl _) ?_;intro v239 w13 ho14 hb hg_ hnew_;clear hg_ hnew_;(first|rw [← Ny238.out] at ho14|(simp only [Int.reduceToNat] at ho14;rw [← Ny238.out] at ho14));have n0_:=Aside0.mk (Kd.S_elder' (by (with_reducible repeat (first|apply Kd.S_alloc|apply Kd.S_drewN|apply Kd.S_drew));exact HO_3.out) (Kd.R_base ho14) hb);have n1_:=Aside0.mk (Kd.R_lower ho14 (below_size bs));have n2_:=Aside0.mk (kb BK0.out hb);have n3_:=Aside0.mk (below_step bs hb);clear HO_3 BK0 HB;have HO_3:=n0_;have HO240:=n1_;have BK0:=n2_;have HB:=n3_;clear n0_ n1_ n2_ n3_;clear hb ho14;have p10 : 0 ≤ (x16_1 : Int):=of_decide_eq_true az;have q10 : (x16_1 : Int) < ((y238.length : Int) : Int):=of_decide_eq_true az;obtain ⟨go10,co10,eo10,gb10,gl10,cl10,HG10⟩:=Kd.R_form HO240.out (by omega);(first|cases eo10|(injection eo10 with ea_ en_ ec_;(first|subst ea_|(injection ea_ with ea_;subst ea_));subst ec_;clear en_));have GB10:=Aside0.mk gb10;have GG10:=Aside0.mk HG10;clear gb10 gl10 HG10;obtain ⟨hx10_0,hf10_0⟩:=Kd.R_celln 0 HO240.out (x16_1 : Int) p10 q10;replace p10:=eq_true p10;replace q10:=eq_true q10;obtain ⟨hy15_,hz15_⟩:=Kd.R_celln 0 HO240.out (x16_1 : Int) (of_decide_eq_true az) (of_decide_eq_true az);have HP15:=Kd.R_putg HO240.out (x16_1 : Int) 1)|((with_reducible refine gate_store (t:=3) (p:=26) rfl ?_);refine store_event (t:=3) (p:=26) (v:=?vo_w16) (w1:=(w13.setCell ⟨go10,(x16_1 : Int).toNat,none⟩ (.int .i64 1))) ?hg ?ho ?hn ?hr ?_;(case ho=>rfl);(case hg=>rfl);(case hn=>rfl);(case hr=>first|(go_simp;done)|(go_simp;rfl));intro w16 hw;have hg : w13.grownBy w16 (some go10):=(by rw [hw];exact HP15.2);have hp_ : Kd.R (Kd.int .i64) 3 w16 w.heap.size (fun _=>True) (.slice (some ⟨go10,0,none⟩) y238.length co10) y241:=(by rw [hw,Ny241.out];exact HP15.1);clear HP15;have n0_:=Aside0.mk (Kd.S_after (v:=(.slice (some ⟨go10,0,none⟩) y238.length co10)) (v1:=(.slice (some ⟨go10,0,none⟩) y238.length co10)) (ok:=(fun _=>True)) (by (with_reducible repeat (first|apply Kd.S_alloc|apply Kd.S_drewN|apply Kd.S_drew));exact HO_3.out) hg (.inl rfl));have n1_:=Aside0.mk (blk_grown (g:=g0_) (o:=.cells #[.int .i64 a0_0,.slice A0_1 l0_1.length c0_1,.slice A0_2 l0_2.length c0_2] 29 (0,0)) (kz BK0.out) hg (Kd.R_ne HO240.out BK0.out (by decide)));have n2_:=Aside0.mk (hp_);have n3_:=Aside0.mk ((by rw [hw];exact below_set (HB.out) GB10.out : Below w.heap.size w w16));clear HO_3 BK0 HO240 HB;have HO_3:=n0_;have BK0:=n1_;have HO240:=n2_;have HB:=n3_;clear n0_ n1_ n2_ n3_;clear hg hw hp_)|((with_reducible refine gate_builtin (b:=.append) (xs:=#[.tmp 27,.tmp 29]) rfl ?_);at_builtin;refine Kd.S_append (Kd.slice 3 (Kd.int .i64)) (w0:=w) w.heap.size rfl (.tmp 27) (.tmp 29) 50 23 (.slice none 0 0) 24 rfl Try.underlying50 info23 rfl (by decide) (by omega) u3 x3_1 y241 [.slice (some ⟨go10,0,none⟩) y238.length co10] (fun _=>True) (fun k_=>some k_ = (.slice (some ⟨go10,0,none⟩) y238.length co10 : Value).ownBlock) rfl rfl ?aP (fun k_ hk_=>((Kd.R_mono (ok':=fun k_=>((fun _=>True)) k_ ∧ some k_ ≠ (u3 : Value).ownBlock) (Kd.R_apart' (HO240.out) (Kd.S_typed HO_3.out) (by decide)) (fun k_ hk=>⟨trivial,hk.2⟩))).1 k_ hk_.symm) ?aF ?aO ?aB ?aS ?aL ?_;(case aP=>exact Kd.M_row (Kd.R_mono (Kd.R_tight rfl (Kd.R_mono (ok':=fun k_=>((fun _=>True)) k_ ∧ some k_ ≠ (u3 : Value).ownBlock) (Kd.R_apart' (HO240.out) (Kd.S_typed HO_3.out) (by decide)) (fun k_ hk=>⟨trivial,hk.2⟩))) (fun _ h_=>h_)));(case aB=>exact bs);(case aF=>exact (fun _ _=>trivial));(case aO=>exact (by (with_reducible repeat (first|apply Kd.S_alloc|apply Kd.S_drewN|apply Kd.S_drew));exact Kd.S_mono HO_3.out (fun k_ hk=>⟨trivial,fun e_=>hk.2 e_⟩)));(case aS=>exact (below_size bs));(case aL=>have:=LMc11.out;omega);intro v243 w17 ho hb hg hat;rw [← Ny242.out] at ho;have n0_:=Aside0.mk (blk_grown (g:=g0_) (o:=.cells #[.int .i64 a0_0,.slice A0_1 l0_1.length c0_1,.slice A0_2 l0_2.length c0_2] 29 (0,0)) (kz BK0.out) hg (Kd.S_ne HO_3.out BK0.out (by decide)));have n1_:=Aside0.mk (hb);have n2_:=Aside0.mk (ho);clear BK0 HB HO_3 HO240;have BK0:=n0_;have HB:=n1_;have HO244:=n2_;clear n0_ n1_ n2_;clear ho hb hg hat))
         go_roundg k1
         case measure=>have:=HK1.out;omega
         case rel=>exact ⟨(y242),(wrap64 (x16_1 + 1)),fz,H',⟨by have:=HK1.out;omega⟩,⟨by (with_reducible repeat (first|apply Kd.S_alloc|apply Kd.S_drewN|apply Kd.S_drew));exact HO244.out⟩,⟨by (with_reducible repeat (first|refine blk_drewN ?_ _|refine blk_drew ?_|refine blk_alloc ?_ _));exact BK0.out⟩,⟨by repeat (first|(with_reducible first|exact HB.out|apply below_alloc|apply pw_below_drewN|apply below_drew1|refine below_set ?_ GE0.out)|exact HB.out)⟩⟩
        ·rw [if_neg c11] at H
         exact absurd H (by simp)
       ·rw [if_neg c9] at H
        exact absurd H (by simp)
      ·rw [if_neg c8] at H
       exact absurd H (by simp)
     ·rw [if_neg c7] at H
      exact absurd H (by simp)
    ·rw [if_neg c6] at H
     exact absurd H (by simp)
   ·rw [if_neg c5] at H
    have c5b0 : decide (x16_1 < a0_0) = false:=decide_eq_false c5
    clear c5
    have H':=Aside0.mk H
    clear H
    have hcz18_0 : wr.cell? ⟨g0_,0,none⟩ = some (.int .i64 a0_0):=(blk_cell BK0.out 0).trans rfl
    have hcz18_1 : wr.cell? ⟨g0_,1,none⟩ = some (.slice A0_1 l0_1.length c0_1):=(blk_cell BK0.out 1).trans rfl
    have hcz18_2 : wr.cell? ⟨g0_,2,none⟩ = some (.slice A0_2 l0_2.length c0_2):=(blk_cell BK0.out 2).trans rfl
    have hfz18_0:=blk_frozen BK0.out 0
    have hfz18_1:=blk_frozen BK0.out 1
    have hfz18_2:=blk_frozen BK0.out 2
    go_wp2
    go_loopg [3,37] k1 (fun kq v3 v37 w'=>∃ (x3_2 : List (List Int)) (x37_2 : Int),v37 = .int .i64 x37_2 ∧ Aside0 (impl_Plan_exponents.l1 kq x3_2 l0_1 (l0_1.length : Int) x37_2 = some r) ∧ Aside0 (kq ≤ k1) ∧ Aside0 (Kd.S (Kd.slice 3 (Kd.int .i64)) 23 w' w.heap.size (fun _=>True) v3 x3_2) ∧ Aside0 (w'.heap[g0_]? = some (.cells #[.int .i64 a0_0,(.slice A0_1 l0_1.length c0_1),(.slice A0_2 l0_2.length c0_2)] 29 (0,0))) ∧ Aside0 (Below w.heap.size w w'))
    case atStart=>exact ⟨(x3_1),(0),fz,H',⟨Nat.le_refl _⟩,⟨by (with_reducible repeat (first|apply Kd.S_alloc|apply Kd.S_drewN|apply Kd.S_drew));exact HO_3.out⟩,⟨by (with_reducible repeat (first|refine blk_drewN ?_ _|refine blk_drew ?_|refine blk_alloc ?_ _));exact BK0.out⟩,⟨by repeat (first|(with_reducible first|exact HB.out|apply below_alloc|apply pw_below_drewN|apply below_drew1|refine below_set ?_ GE0.out)|exact HB.out)⟩⟩
    case round=>
     clear H'
     try clear c1
     try clear p1
     try clear q1
     try clear hx1
     try clear hf1
     try clear p2
     try clear c5
     try clear c5b0
     try clear c6
     try clear c6b0
     try clear c6b1
     try clear p6
     try clear c7
     try clear c7b0
     try clear c7b1
     try clear c8
     try clear c8b0
     try clear c9
     try clear c9b0
     try clear p10
     try clear q10
     try clear hx10
     try clear hf10
     try clear c11
     try clear hcz12_0
     try clear hcz12_1
     try clear hcz12_2
     try clear hcz18_0
     try clear hcz18_1
     try clear hcz18_2
     try clear hcz4_0
     try clear hcz4_1
     try clear hcz4_2
     try clear hfz12_0
     try clear hfz12_1
     try clear hfz12_2
     try clear hfz18_0
     try clear hfz18_1
     try clear hfz18_2
     try clear hfz4_0
     try clear hfz4_1
     try clear hfz4_2
     try clear hx10_0
     try clear p10
     try clear p2
     try clear q10
     obtain ⟨x3_2,x37_2,rfl,HA,HK2,HO_3,BK0,HB⟩:=hrel
     cases gk with
     | zero=>exact absurd HA.out (by simp [impl_Plan_exponents.l1])
     | succ k2=>
      have H:=HA.out
      clear HA
      simp only [impl_Plan_exponents.l1] at H
      by_cases c19 : x37_2 < (l0_1.length : Int)
      ·rw [if_pos c19] at H
       have c19b0 : decide (x37_2 < (l0_1.length : Int)) = true:=decide_eq_true c19
       clear c19
       by_cases c20 : 0 ≤ x37_2
       ·rw [if_pos c20] at H
        have c20b0 : decide (0 ≤ x37_2) = true:=decide_eq_true c20
        clear c20
        by_cases c21 : x37_2 < (l0_1.length : Int)
        ·rw [if_pos c21] at H
         have c21b0 : decide (x37_2 < (l0_1.length : Int)) = true:=decide_eq_true c21
         clear c21
         obtain ⟨y247,hy247⟩ : ∃ y_ : List Int,y_ = (([] : List Int)):=⟨_,rfl⟩
         replace H : (if 0 ≤ ((rd_T73 l0_1 x37_2).f0) then (if ((rd_T73 l0_1 x37_2).f0) < (x3_2.length : Int) then (impl_Plan_exponents.l2 k2 x3_2 y247 l0_1 (l0_1.length : Int) x37_2 (rd_L3 x3_2 ((rd_T73 l0_1 x37_2).f0)) ((rd_L3 x3_2 ((rd_T73 l0_1 x37_2).f0)).length : Int) 0 ((rd_T73 l0_1 x37_2).f0) ((rd_T73 l0_1 x37_2).f1)) else (none)) else (none)) = some r:=by first|(rw [hy247];with_reducible exact H)|(have H2_:=(Option.bind_some _ _).symm.trans H;rw [hy247];with_reducible exact H2_)|(have H2_:=(Option.bind_some _ _).symm.trans H;with_reducible exact H2_)|with_reducible exact H|(rw [hy247];exact H)|exact H
         have Ny247:=Aside0.mk hy247
         clear hy247
         by_cases c22 : 0 ≤ ((rd_T73 l0_1 x37_2).f0)
         ·rw [if_pos c22] at H
          have c22b0 : decide (0 ≤ ((rd_T73 l0_1 x37_2).f0)) = true:=decide_eq_true c22
          clear c22
          by_cases c23 : ((rd_T73 l0_1 x37_2).f0) < (x3_2.length : Int)
          ·rw [if_pos c23] at H
           have c23b0 : decide (((rd_T73 l0_1 x37_2).f0) < (x3_2.length : Int)) = true:=decide_eq_true c23
           clear c23
           have H':=Aside0.mk H
           clear H
           have p245 : 0 ≤ (x37_2 : Int):=of_decide_eq_true az
           have q245 : x37_2 < (l0_1.length : Int):=of_decide_eq_true az
           obtain ⟨ad245,e245,hx245_0,hx245_1⟩:=at_T73 HR0_1.out x37_2 p245 q245
           cases e245
           replace hx245_0:=(HB.out.cell (World.block_lt_of_cell? w _ hx245_0)).trans hx245_0
           replace hx245_1:=(HB.out.cell (World.block_lt_of_cell? w _ hx245_1)).trans hx245_1
           replace p245:=eq_true p245
           replace q245:=eq_true q245
           go_wp2_with (first|((with_reducible refine gate_dst (N:=7) rfl ?_);refine box_event ?hg (N:=7) ?hd (cs:=#[.int .i64 0,.int .i64 0]) (t:=73) ?hr ?_;(case hd=>rfl);(case hg=>rfl);(case hr=>first|(go_simp;done)|(go_simp;rfl));intro gb246 hg w24 hbox hb;have n0_:=Aside0.mk (Kd.S_below (by (with_reducible repeat (first|apply Kd.S_alloc|apply Kd.S_drewN|apply Kd.S_drew));exact HO_3.out) hb);have n1_:=Aside0.mk (kb BK0.out hb);have n2_:=Aside0.mk (below_step bs hb);have n3_:=Aside0.mk (hbox);have n4_:=Aside0.mk ((by rw [hg];exact (below_size bs) : w.heap.size ≤ gb246));have n5_:=Aside0.mk ((by rw [hg];exact (below_size bs) : w.heap.size ≤ gb246));have n6_:=Aside0.mk (kn hg BK0.out);have n7_:=Aside0.mk (km hg BK0.out);clear HO_3 BK0 HB;have HO_3:=n0_;have BK0:=n1_;have HB:=n2_;have BK246:=n3_;have GW246:=n4_;have GE246:=n5_;have NB0_246:=n6_;have NB246_0:=n7_;clear n0_ n1_ n2_ n3_ n4_ n5_ n6_ n7_;clear hb hbox hg;have hnb25:=NB246_0.out;have hnc25:=NB0_246.out;have hcz26_0 : w24.cell? ⟨gb246,0,none⟩ = some (.int .i64 0):=(blk_cell BK246.out 0).trans rfl;have hcz26_1 : w24.cell? ⟨gb246,1,none⟩ = some (.int .i64 0):=(blk_cell BK246.out 1).trans rfl;have hfz26_0:=blk_frozen BK246.out 0;have hfz26_1:=blk_frozen BK246.out 1)|((with_reducible refine gate_dst (N:=41) rfl ?_);refine Kd.R_lit (Kd.int .i64) _ 3 ?hg (N:=41) ?hd (xs:=([] : List Int)) (inner:=[]) (ok:=fun _=>True) (okp:=fun _=>True) ?hr ?hp (fun _ hk=>hk) trivial (Below.refl _ _) (Nat.le_refl _) (by simp) ?_;(case hd=>rfl);(case hg=>rfl);(case hr=>first|(go_simp;done)|(go_simp;rfl));(case hp=>exact (Reps.none _ _));intro v248 w27 ho28 hb hg_ hnew_;clear hg_ hnew_;(first|rw [← Ny247.out] at ho28|(simp only [Int.reduceToNat] at ho28;rw [← Ny247.out] at ho28));have n0_:=Aside0.mk (Kd.S_elder' (by (with_reducible repeat (first|apply Kd.S_alloc|apply Kd.S_drewN|apply Kd.S_drew));exact (Kd.S_mono (Kd.S_far (p:=⟨gb246,1,none⟩) (Kd.S_far (p:=⟨gb246,0,none⟩) (Kd.S_types HO_3.out BK246.out (by decide)) (fun _ hk=>hk.2) (.int .i64 ((rd_T73 l0_1 x37_2).f0))) (fun _ hk=>hk.2) (.int .i64 ((rd_T73 l0_1 x37_2).f1))) (fun _ h_=>h_.1))) (Kd.R_base ho28) hb);have n1_:=Aside0.mk (Kd.R_lower ho28 (below_size bs));have n2_:=Aside0.mk (blk_below (g:=g0_) (o:=.cells #[.int .i64 a0_0,.slice (some ad245) l0_1.length c0_1,.slice A0_2 l0_2.length c0_2] 29 (0,0)) (by (with_reducible repeat (first|refine blk_drewN ?_ _|refine blk_drew ?_|refine blk_alloc ?_ _));refine blk_far ?_ NB0_246.out _;(with_reducible repeat (first|refine blk_drewN ?_ _|refine blk_drew ?_|refine blk_alloc ?_ _));refine blk_far ?_ NB0_246.out _;(with_reducible repeat (first|refine blk_drewN ?_ _|refine blk_drew ?_|refine blk_alloc ?_ _));exact BK0.out) hb);have n3_:=Aside0.mk (blk_below (g:=gb246) (o:=.cells #[.int .i64 ((rd_T73 l0_1 x37_2).f0),.int .i64 ((rd_T73 l0_1 x37_2).f1)] 73 (0,0)) (by (with_reducible repeat (first|refine blk_drewN ?_ _|refine blk_drew ?_|refine blk_alloc ?_ _));refine blk_put (cs:=#[.int .i64 ((rd_T73 l0_1 x37_2).f0),.int .i64 0]) ?_ 1 _ rfl;(with_reducible repeat (first|refine blk_drewN ?_ _|refine blk_drew ?_|refine blk_alloc ?_ _));refine blk_put (cs:=#[.int .i64 0,.int .i64 0]) ?_ 0 _ rfl;(with_reducible repeat (first|refine blk_drewN ?_ _|refine blk_drew ?_|refine blk_alloc ?_ _));exact BK246.out) hb);have n4_:=Aside0.mk (below_step bs hb);clear HO_3 BK0 BK246 HB;have HO_3:=n0_;have HO249:=n1_;have BK0:=n2_;have BK246:=n3_;have HB:=n4_;clear n0_ n1_ n2_ n3_ n4_;clear hb ho28;have hcz29_0 : w27.cell? ⟨gb246,0,none⟩ = some (.int .i64 ((rd_T73 l0_1 x37_2).f0)):=(blk_cell BK246.out 0).trans rfl;have hcz29_1 : w27.cell? ⟨gb246,1,none⟩ = some (.int .i64 ((rd_T73 l0_1 x37_2).f1)):=(blk_cell BK246.out 1).trans rfl;have hfz29_0:=blk_frozen BK246.out 0;have hfz29_1:=blk_frozen BK246.out 1;obtain ⟨Ao30,co30,eo30⟩:=Kd.S_slice HO_3.out;subst eo30;have p250 : 0 ≤ (((rd_T73 l0_1 x37_2).f0) : Int):=of_decide_eq_true az;have q250 : ((rd_T73 l0_1 x37_2).f0) < (x3_2.length : Int):=of_decide_eq_true az;obtain ⟨ad250,A250_0,c250_0,e250,hx250_0,hl250_0,hi250_0⟩:=at_L3 (Kd.S_reads' HO_3.out).2.2 ((rd_T73 l0_1 x37_2).f0) p250 q250;cases e250;obtain ⟨ce250,hce250,hMe250,hcc250⟩:=Kd.S_get HO_3.out [] ((rd_T73 l0_1 x37_2).f0) p250 (by first|exact q250|exact of_decide_eq_true az|(have e_:=(Kd.S_reads' HO_3.out).1;omega));obtain ⟨ve250_0,rfl,ge250_0⟩:=hMe250;have hv250_0:=hcc250 0 _ rfl;rw [Nat.add_zero,show ((Kd.slice 3 (Kd.int .i64))).sz = 1 from rfl,Nat.mul_one] at hv250_0;replace hv250_0:=Option.some.inj (hv250_0.symm.trans hx250_0);rw [hv250_0] at ge250_0;have HL250_0:=Aside0.mk (show Kd.R (Kd.int .i64) 3 _ _ _ _ (rd_L3 x3_2 ((rd_T73 l0_1 x37_2).f0)) from ge250_0);clear hv250_0 ge250_0;clear hcc250 hce250;have HR250_0:=Aside0.mk hi250_0;have HC250_0:=Aside0.mk hl250_0;clear hi250_0 hl250_0;replace p250:=eq_true p250;replace q250:=eq_true q250))
           go_loopg [8,48] k2 (fun kq v8 v48 w'=>∃ (x8_3 : List Int) (x48_3 : Int),v48 = .int .i64 x48_3 ∧ Aside0 (impl_Plan_exponents.l2 kq x3_2 x8_3 l0_1 (l0_1.length : Int) x37_2 (rd_L3 x3_2 ((rd_T73 l0_1 x37_2).f0)) ((rd_L3 x3_2 ((rd_T73 l0_1 x37_2).f0)).length : Int) x48_3 ((rd_T73 l0_1 x37_2).f0) ((rd_T73 l0_1 x37_2).f1) = some r) ∧ Aside0 (kq ≤ k2) ∧ Aside0 (Kd.S (Kd.slice 3 (Kd.int .i64)) 23 w' w.heap.size (fun k_=>some k_ ≠ (v8 : Value).ownBlock) (.slice (some ad250) x3_2.length co30) x3_2) ∧ Aside0 (Kd.R (Kd.int .i64) 3 w' w.heap.size (fun _=>True) v8 x8_3) ∧ Aside0 (Kd.R (Kd.int .i64) 3 w' w.heap.size (fun k_=>some k_ ≠ (v8 : Value).ownBlock) (.slice A250_0 (rd_L3 x3_2 ((rd_T73 l0_1 x37_2).f0)).length c250_0) (rd_L3 x3_2 ((rd_T73 l0_1 x37_2).f0))) ∧ Aside0 (w'.heap[g0_]? = some (.cells #[.int .i64 a0_0,(.slice (some ad245) l0_1.length c0_1),(.slice A0_2 l0_2.length c0_2)] 29 (0,0))) ∧ Aside0 (w'.heap[gb246]? = some (.cells #[.int .i64 ((rd_T73 l0_1 x37_2).f0),.int .i64 ((rd_T73 l0_1 x37_2).f1)] 73 (0,0))) ∧ Aside0 (Below w.heap.size w w'))
           case atStart=>exact ⟨(y247),(0),fz,H',⟨Nat.le_refl _⟩,⟨by (with_reducible repeat (first|apply Kd.S_alloc|apply Kd.S_drewN|apply Kd.S_drew));exact Kd.S_mono HO_3.out (fun _ hk=>hk.2)⟩,⟨by (with_reducible repeat (first|apply Kd.R_alloc|apply Kd.R_drewN|apply Kd.R_drew));exact HO249.out⟩,⟨by (with_reducible repeat (first|apply Kd.R_alloc|apply Kd.R_drewN|apply Kd.R_drew));exact Kd.R_mono HL250_0.out (fun _ hk=>hk.1.2)⟩,⟨by (with_reducible repeat (first|refine blk_drewN ?_ _|refine blk_drew ?_|refine blk_alloc ?_ _));exact BK0.out⟩,⟨by (with_reducible repeat (first|refine blk_drewN ?_ _|refine blk_drew ?_|refine blk_alloc ?_ _));exact BK246.out⟩,⟨by repeat (first|(with_reducible first|exact HB.out|apply below_alloc|apply pw_below_drewN|apply below_drew1|refine below_set ?_ GE0.out|refine below_set ?_ GE246.out)|exact HB.out)⟩⟩
           case round=>
            clear H'
            try clear c1
            try clear p1
            try clear q1
            try clear hx1
            try clear hf1
            try clear c2
            try clear p2
            try clear q2
            try clear hx2
            try clear c5
            try clear c5b0
            try clear c6
            try clear c6b0
            try clear c6b1
            try clear p6
            try clear c7
            try clear c7b0
            try clear c7b1
            try clear c8
            try clear c8b0
            try clear c9
            try clear c9b0
            try clear p10
            try clear q10
            try clear hx10
            try clear hf10
            try clear c11
            try clear c19
            try clear c19b0
            try clear c20
            try clear c20b0
            try clear c21
            try clear c21b0
            try clear c22
            try clear c22b0
            try clear c23
            try clear c23b0
            try clear p24
            try clear q24
            try clear hx24
            try clear c25
            try clear p25
            try clear q25
            try clear hx25
            try clear hcz12_0
            try clear hcz12_1
            try clear hcz12_2
            try clear hcz18_0
            try clear hcz18_1
            try clear hcz18_2
            try clear hcz26_0
            try clear hcz26_1
            try clear hcz29_0
            try clear hcz29_1
            try clear hcz4_0
            try clear hcz4_1
            try clear hcz4_2
            try clear hfz12_0
            try clear hfz12_1
            try clear hfz12_2
            try clear hfz18_0
            try clear hfz18_1
            try clear hfz18_2
            try clear hfz26_0
            try clear hfz26_1
            try clear hfz29_0
            try clear hfz29_1
            try clear hfz4_0
            try clear hfz4_1
            try clear hfz4_2
            try clear hx10_0
            try clear hx245_0
            try clear hx245_1
            try clear hx250_0
            try clear p1
            try clear p10
            try clear p2
            try clear p245
            try clear p250
            try clear p6
            try clear q1
            try clear q10
            try clear q245
            try clear q250
            obtain ⟨x8_3,x48_3,rfl,HA,HK3,HO_3,HO_8,HO_46,BK0,BK246,HB⟩:=hrel
            cases gk with
            | zero=>exact absurd HA.out (by simp [impl_Plan_exponents.l2])
            | succ k3=>
             have H:=HA.out
             clear HA
             simp only [impl_Plan_exponents.l2] at H
             by_cases c31 : x48_3 < ((rd_L3 x3_2 ((rd_T73 l0_1 x37_2).f0)).length : Int)
             ·rw [if_pos c31] at H
              have c31b0 : decide (x48_3 < ((rd_L3 x3_2 ((rd_T73 l0_1 x37_2).f0)).length : Int)) = true:=decide_eq_true c31
              clear c31
              by_cases c32 : 0 ≤ x48_3
              ·rw [if_pos c32] at H
               have c32b0 : decide (0 ≤ x48_3) = true:=decide_eq_true c32
               clear c32
               by_cases c33 : x48_3 < ((rd_L3 x3_2 ((rd_T73 l0_1 x37_2).f0)).length : Int)
               ·rw [if_pos c33] at H
                have c33b0 : decide (x48_3 < ((rd_L3 x3_2 ((rd_T73 l0_1 x37_2).f0)).length : Int)) = true:=decide_eq_true c33
                clear c33
                by_cases c34 : 0 ≤ ((rd_T73 l0_1 x37_2).f1)
                ·rw [if_pos c34] at H
                 have c34b0 : decide (0 ≤ ((rd_T73 l0_1 x37_2).f1)) = true:=decide_eq_true c34
                 clear c34
                 by_cases c35 : ((rd_T73 l0_1 x37_2).f1) < (x3_2.length : Int)
                 ·rw [if_pos c35] at H
                  have c35b0 : decide (((rd_T73 l0_1 x37_2).f1) < (x3_2.length : Int)) = true:=decide_eq_true c35
                  clear c35
                  by_cases c36 : x48_3 < ((rd_L3 x3_2 ((rd_T73 l0_1 x37_2).f1)).length : Int)
                  ·rw [if_pos c36] at H
                   have c36b0 : decide (x48_3 < ((rd_L3 x3_2 ((rd_T73 l0_1 x37_2).f1)).length : Int)) = true:=decide_eq_true c36
                   clear c36
                   obtain ⟨ji37,hji37⟩ : ∃ j_ : Int,(mn (wrap64 ((rd (rd_L3 x3_2 ((rd_T73 l0_1 x37_2).f0)) x48_3) + (rd (rd_L3 x3_2 ((rd_T73 l0_1 x37_2).f1)) x48_3))) 1000001) = j_:=⟨_,rfl⟩
                   replace H : (if x8_3.length < 17592186044416 then (impl_Plan_exponents.l2 k3 x3_2 (x8_3 ++ [ji37]) l0_1 (l0_1.length : Int) x37_2 (rd_L3 x3_2 ((rd_T73 l0_1 x37_2).f0)) ((rd_L3 x3_2 ((rd_T73 l0_1 x37_2).f0)).length : Int) (wrap64 (x48_3 + 1)) ((rd_T73 l0_1 x37_2).f0) ((rd_T73 l0_1 x37_2).f1)) else (none)) = some r:=by first|(rw [hji37] at H;exact H)|(simp only [hji37] at H ⊢;exact H)
                   have hji37_ : (if 1000001 < (wrap64 ((rd (rd_L3 x3_2 ((rd_T73 l0_1 x37_2).f0)) x48_3) + (rd (rd_L3 x3_2 ((rd_T73 l0_1 x37_2).f1)) x48_3))) then 1000001 else (wrap64 ((rd (rd_L3 x3_2 ((rd_T73 l0_1 x37_2).f0)) x48_3) + (rd (rd_L3 x3_2 ((rd_T73 l0_1 x37_2).f1)) x48_3)))) = ji37:=hji37
                   by_cases c38 : x8_3.length < 17592186044416
                   ·rw [if_pos c38] at H
                    have LMc38:=Aside0.mk c38
                    clear c38
                    obtain ⟨y254,hy254⟩ : ∃ y_ : List Int,y_ = (x8_3 ++ [ji37]):=⟨_,rfl⟩
                    replace H : (impl_Plan_exponents.l2 k3 x3_2 y254 l0_1 (l0_1.length : Int) x37_2 (rd_L3 x3_2 ((rd_T73 l0_1 x37_2).f0)) ((rd_L3 x3_2 ((rd_T73 l0_1 x37_2).f0)).length : Int) (wrap64 (x48_3 + 1)) ((rd_T73 l0_1 x37_2).f0) ((rd_T73 l0_1 x37_2).f1)) = some r:=by first|(rw [hy254];with_reducible exact H)|(have H2_:=(Option.bind_some _ _).symm.trans H;rw [hy254];with_reducible exact H2_)|(have H2_:=(Option.bind_some _ _).symm.trans H;with_reducible exact H2_)|with_reducible exact H|(rw [hy254];exact H)|exact H
                    have Ny254:=Aside0.mk hy254
                    clear hy254
                    have H':=Aside0.mk H
                    clear H
                    have p251 : 0 ≤ (x48_3 : Int):=of_decide_eq_true az
                    have q251 : x48_3 < ((rd_L3 x3_2 ((rd_T73 l0_1 x37_2).f0)).length : Int):=of_decide_eq_true az
                    obtain ⟨ad251,e251,hx251_0⟩:=Kd.at_int (Kd.R_reads' HO_46.out).2.2 x48_3 p251 q251
                    cases e251
                    replace p251:=eq_true p251
                    replace q251:=eq_true q251
                    have hnb39:=NB246_0.out
                    have hnc39:=NB0_246.out
                    have hcz40_0 : wr.cell? ⟨gb246,0,none⟩ = some (.int .i64 ((rd_T73 l0_1 x37_2).f0)):=(blk_cell BK246.out 0).trans rfl
                    have hcz40_1 : wr.cell? ⟨gb246,1,none⟩ = some (.int .i64 ((rd_T73 l0_1 x37_2).f1)):=(blk_cell BK246.out 1).trans rfl
                    have hfz40_0:=blk_frozen BK246.out 0
                    have hfz40_1:=blk_frozen BK246.out 1
                    have p252 : 0 ≤ (((rd_T73 l0_1 x37_2).f1) : Int):=of_decide_eq_true az
                    have q252 : ((rd_T73 l0_1 x37_2).f1) < (x3_2.length : Int):=of_decide_eq_true az
                    obtain ⟨ad252,A252_0,c252_0,e252,hx252_0,hl252_0,hi252_0⟩:=at_L3 (Kd.S_reads' HO_3.out).2.2 ((rd_T73 l0_1 x37_2).f1) p252 q252
                    obtain rfl : ad250 = ad252:=(by injection e252)
                    obtain ⟨ce252,hce252,hMe252,hcc252⟩:=Kd.S_get HO_3.out [] ((rd_T73 l0_1 x37_2).f1) p252 (by first|exact q252|exact of_decide_eq_true az|(have e_:=(Kd.S_reads' HO_3.out).1;omega))
                    obtain ⟨ve252_0,rfl,ge252_0⟩:=hMe252
                    have hv252_0:=hcc252 0 _ rfl
                    rw [Nat.add_zero,show ((Kd.slice 3 (Kd.int .i64))).sz = 1 from rfl,Nat.mul_one] at hv252_0
                    replace hv252_0:=Option.some.inj (hv252_0.symm.trans hx252_0)
                    rw [hv252_0] at ge252_0
                    have HL252_0:=Aside0.mk (show Kd.R (Kd.int .i64) 3 _ _ _ _ (rd_L3 x3_2 ((rd_T73 l0_1 x37_2).f1)) from ge252_0)
                    clear hv252_0 ge252_0
                    clear hcc252 hce252
                    have HR252_0:=Aside0.mk hi252_0
                    have HC252_0:=Aside0.mk hl252_0
                    clear hi252_0 hl252_0
                    replace p252:=eq_true p252
                    replace q252:=eq_true q252
                    have p253 : 0 ≤ (x48_3 : Int):=of_decide_eq_true az
                    have q253 : x48_3 < ((rd_L3 x3_2 ((rd_T73 l0_1 x37_2).f1)).length : Int):=of_decide_eq_true az
                    obtain ⟨ad253,e253,hx253_0⟩:=Kd.at_int (by repeat (first|(with_reducible exact HR252_0.out)|(with_reducible refine Kd.C_alloc ?_ _)|(with_reducible refine Kd.C_drewN ?_ _)|(with_reducible refine Kd.C_drew ?_)|exact HR252_0.out)) x48_3 p253 q253
                    cases e253
                    replace p253:=eq_true p253
                    replace q253:=eq_true q253
                    go_wp2_with (first|((with_reducible refine gate_builtin (b:=.append) (xs:=#[.tmp 53,.tmp 65]) rfl ?_);at_builtin;refine Kd.R_append (Kd.int .i64) (w0:=w) w.heap.size rfl (.tmp 53) (.tmp 65) 23 3 (.int .i64 0) 8 rfl Try.underlying23 info3 rfl (by decide) (by omega) u8 x8_3 ji37 [.int .i64 ji37] (fun _=>True) (fun _=>False) rfl rfl ?aP (fun _ hk=>hk.elim) ?aF ?aO ?aB ?aS ?aL ?_;(case aP=>exact rfl);(case aB=>exact bs);(case aF=>exact (fun _ _=>trivial));(case aO=>exact (rz HO_8.out));(case aS=>exact (below_size bs));(case aL=>have:=LMc38.out;omega);intro v255 w41 ho hb hg hat;rw [← Ny254.out] at ho;have n0_:=Aside0.mk (Kd.S_after (ok:=(fun _=>True)) (by (with_reducible repeat (first|apply Kd.S_alloc|apply Kd.S_drewN|apply Kd.S_drew));exact Kd.S_mono HO_3.out (fun _ hk=>⟨trivial,hk⟩)) hg hat);have n1_:=Aside0.mk (Kd.R_after (ok:=(fun _=>True)) (by (with_reducible repeat (first|apply Kd.R_alloc|apply Kd.R_drewN|apply Kd.R_drew));exact Kd.R_mono HO_46.out (fun _ hk=>⟨trivial,hk⟩)) hg hat);have n2_:=Aside0.mk (blk_grown (g:=g0_) (o:=.cells #[.int .i64 a0_0,.slice (some ad245) l0_1.length c0_1,.slice A0_2 l0_2.length c0_2] 29 (0,0)) (kz BK0.out) hg (Kd.R_ne HO_8.out BK0.out (by decide)));have n3_:=Aside0.mk (blk_grown (g:=gb246) (o:=.cells #[.int .i64 ((rd_T73 l0_1 x37_2).f0),.int .i64 ((rd_T73 l0_1 x37_2).f1)] 73 (0,0)) (kz BK246.out) hg (Kd.R_ne HO_8.out BK246.out (by decide)));have n4_:=Aside0.mk (Kd.R_after (ok:=(fun k_=>some k_ ≠ (.slice (some ad250) x3_2.length co30 : Value).ownBlock)) (by (with_reducible repeat (first|apply Kd.R_alloc|apply Kd.R_drewN|apply Kd.R_drew));exact Kd.R_mono HL252_0.out (fun _ hk=>⟨hk.2,hk.1⟩)) hg hat);have n5_:=Aside0.mk (hb);have n6_:=Aside0.mk (ho);clear HO_3 HO_46 BK0 BK246 HL252_0 HB HO_8;have HO_3:=n0_;have HO_46:=n1_;have BK0:=n2_;have BK246:=n3_;have HL252_0:=n4_;have HB:=n5_;have HO256:=n6_;clear n0_ n1_ n2_ n3_ n4_ n5_ n6_;clear ho hb hg hat))
                    go_roundg k3
                    case measure=>have:=HK1.out;have:=HK2.out;have:=HK3.out;omega
                    case rel=>exact ⟨(y254),(wrap64 (x48_3 + 1)),fz,H',⟨by have:=HK1.out;have:=HK2.out;have:=HK3.out;omega⟩,⟨by (with_reducible repeat (first|apply Kd.S_alloc|apply Kd.S_drewN|apply Kd.S_drew));exact Kd.S_mono HO_3.out (fun _ hk=>hk.2)⟩,⟨by (with_reducible repeat (first|apply Kd.R_alloc|apply Kd.R_drewN|apply Kd.R_drew));exact HO256.out⟩,⟨by (with_reducible repeat (first|apply Kd.R_alloc|apply Kd.R_drewN|apply Kd.R_drew));exact Kd.R_mono HO_46.out (fun _ hk=>hk.2)⟩,⟨by (with_reducible repeat (first|refine blk_drewN ?_ _|refine blk_drew ?_|refine blk_alloc ?_ _));exact BK0.out⟩,⟨by (with_reducible repeat (first|refine blk_drewN ?_ _|refine blk_drew ?_|refine blk_alloc ?_ _));exact BK246.out⟩,⟨by repeat (first|(with_reducible first|exact HB.out|apply below_alloc|apply pw_below_drewN|apply below_drew1|refine below_set ?_ GE0.out|refine below_set ?_ GE246.out)|exact HB.out)⟩⟩
                   ·rw [if_neg c38] at H
                    exact absurd H (by simp)
                  ·rw [if_neg c36] at H
                   exact absurd H (by simp)
                 ·rw [if_neg c35] at H
                  exact absurd H (by simp)
                ·rw [if_neg c34] at H
                 exact absurd H (by simp)
               ·rw [if_neg c33] at H
                exact absurd H (by simp)
              ·rw [if_neg c32] at H
               exact absurd H (by simp)
             ·rw [if_neg c31] at H
              have c31b0 : decide (x48_3 < ((rd_L3 x3_2 ((rd_T73 l0_1 x37_2).f0)).length : Int)) = false:=decide_eq_false c31
              clear c31
              by_cases c42 : x3_2.length < 5864062014805
              ·rw [if_pos c42] at H
               have LMc42:=Aside0.mk c42
               clear c42
               obtain ⟨y257,hy257⟩ : ∃ y_ : List (List Int),y_ = (x3_2 ++ [x8_3]):=⟨_,rfl⟩
               replace H : (impl_Plan_exponents.l1 k3 y257 l0_1 (l0_1.length : Int) (wrap64 (x37_2 + 1))) = some r:=by first|(rw [hy257];with_reducible exact H)|(have H2_:=(Option.bind_some _ _).symm.trans H;rw [hy257];with_reducible exact H2_)|(have H2_:=(Option.bind_some _ _).symm.trans H;with_reducible exact H2_)|with_reducible exact H|(rw [hy257];exact H)|exact H
               have Ny257:=Aside0.mk hy257
               clear hy257
               have H':=Aside0.mk H
               clear H
               obtain ⟨Ao44,co44,eo44⟩:=Kd.R_slice HO_8.out
               subst eo44
               go_wp2_with (first|((with_reducible refine gate_builtin (b:=.append) (xs:=#[.tmp 68,.tmp 70]) rfl ?_);at_builtin;refine Kd.S_append (Kd.slice 3 (Kd.int .i64)) (w0:=w) w.heap.size rfl (.tmp 68) (.tmp 70) 50 23 (.slice none 0 0) 24 rfl Try.underlying50 info23 rfl (by decide) (by omega) (.slice (some ad250) x3_2.length co30) x3_2 x8_3 [.slice Ao44 x8_3.length co44] (fun _=>True) (fun k_=>some k_ = (.slice Ao44 x8_3.length co44 : Value).ownBlock) rfl rfl ?aP (fun k_ hk_=>((Kd.R_mono (ok':=fun k_=>((fun _=>True)) k_ ∧ some k_ ≠ (.slice (some ad250) x3_2.length co30 : Value).ownBlock) (Kd.R_apart' (HO_8.out) (Kd.S_typed HO_3.out) (by decide)) (fun k_ hk=>⟨trivial,hk.2⟩))).1 k_ hk_.symm) ?aF ?aO ?aB ?aS ?aL ?_;(case aP=>exact Kd.M_row (Kd.R_mono (Kd.R_tight rfl (Kd.R_mono (ok':=fun k_=>((fun _=>True)) k_ ∧ some k_ ≠ (.slice (some ad250) x3_2.length co30 : Value).ownBlock) (Kd.R_apart' (HO_8.out) (Kd.S_typed HO_3.out) (by decide)) (fun k_ hk=>⟨trivial,hk.2⟩))) (fun _ h_=>h_)));(case aB=>exact bs);(case aF=>exact (fun _ _=>trivial));(case aO=>exact (by (with_reducible repeat (first|apply Kd.S_alloc|apply Kd.S_drewN|apply Kd.S_drew));exact Kd.S_mono HO_3.out (fun k_ hk=>⟨trivial,fun e_=>hk e_⟩)));(case aS=>exact (below_size bs));(case aL=>have:=LMc42.out;omega);intro v258 w43 ho hb hg hat;rw [← Ny257.out] at ho;have n0_:=Aside0.mk (Kd.R_over' (rz HO_46.out) (Kd.S_typed (by (with_reducible repeat (first|apply Kd.S_alloc|apply Kd.S_drewN|apply Kd.S_drew));exact HO_3.out)) (by decide) hg);have n1_:=Aside0.mk (blk_grown (g:=g0_) (o:=.cells #[.int .i64 a0_0,.slice (some ad245) l0_1.length c0_1,.slice A0_2 l0_2.length c0_2] 29 (0,0)) (kz BK0.out) hg (Kd.S_ne HO_3.out BK0.out (by decide)));have n2_:=Aside0.mk (blk_grown (g:=gb246) (o:=.cells #[.int .i64 ((rd_T73 l0_1 x37_2).f0),.int .i64 ((rd_T73 l0_1 x37_2).f1)] 73 (0,0)) (kz BK246.out) hg (Kd.S_ne HO_3.out BK246.out (by decide)));have n3_:=Aside0.mk (hb);have n4_:=Aside0.mk (ho);clear HO_46 BK0 BK246 HB HO_3 HO_8;have HO_46:=n0_;have BK0:=n1_;have BK246:=n2_;have HB:=n3_;have HO259:=n4_;clear n0_ n1_ n2_ n3_ n4_;clear ho hb hg hat))
               go_roundg k3
               case measure=>have:=HK1.out;have:=HK2.out;have:=HK3.out;omega
               case rel=>exact ⟨(y257),(wrap64 (x37_2 + 1)),fz,H',⟨by have:=HK1.out;have:=HK2.out;have:=HK3.out;omega⟩,⟨by (with_reducible repeat (first|apply Kd.S_alloc|apply Kd.S_drewN|apply Kd.S_drew));exact HO259.out⟩,⟨by (with_reducible repeat (first|refine blk_drewN ?_ _|refine blk_drew ?_|refine blk_alloc ?_ _));exact BK0.out⟩,⟨by repeat (first|(with_reducible first|exact HB.out|apply below_alloc|apply pw_below_drewN|apply below_drew1|refine below_set ?_ GE0.out|refine below_set ?_ GE246.out)|exact HB.out)⟩⟩
              ·rw [if_neg c42] at H
               exact absurd H (by simp)
          ·rw [if_neg c23] at H
           exact absurd H (by simp)
         ·rw [if_neg c22] at H
          exact absurd H (by simp)
        ·rw [if_neg c21] at H
         exact absurd H (by simp)
       ·rw [if_neg c20] at H
        exact absurd H (by simp)
      ·rw [if_neg c19] at H
       have c19b0 : decide (x37_2 < (l0_1.length : Int)) = false:=decide_eq_false c19
       clear c19
       obtain rfl:=Option.some.inj H
       go_wp2
       go_ret
       exact ⟨_,by first|rfl|(simp [errW_none,errW_some] <;> rfl)|(simp [*,errW_none,errW_some] <;> rfl),by (with_reducible repeat (first|apply Kd.S_alloc|apply Kd.S_drewN|apply Kd.S_drew));exact HO_3.out,by repeat (first|(with_reducible first|exact HB.out|apply below_alloc|apply pw_below_drewN|apply below_drew1|refine below_set ?_ GE0.out)|exact HB.out)⟩
/-! ### slices_Max_int_int: function 89 -/
def slices_Max_int_int.l0 : Nat → List Int → Int → Int → Option (Int)
 | 0,_,_,_=>none
 | k + 1,x0,x3,x4=>if x4 < (x0.length : Int) then (if 0 ≤ x4 then (slices_Max_int_int.l0 k x0 (mx x3 (rd x0 x4)) (wrap64 (x4 + 1))) else (none)) else (some x3)
def slices_Max_int_int.f (k : Nat) (l0 : List Int) : Option (Int):=if (l0.length : Int) < 1 then (none) else (if 0 < (l0.length : Int) then (slices_Max_int_int.l0 k l0 (rd l0 0) 1) else (none))
theorem slices_Max_int_int.mono_l : ∀ k,(∀ y0 y1 y2,LeO (slices_Max_int_int.l0 k y0 y1 y2) (slices_Max_int_int.l0 (k + 1) y0 y1 y2))
 | 0=>fun _ _ _ r h=>by simp [slices_Max_int_int.l0] at h
 | k + 1=>by
  have ih0:=slices_Max_int_int.mono_l k
  ·intro y0 y1 y2
   unfold slices_Max_int_int.l0
   repeat' first
   | (with_reducible exact ih0 _ _ _)
   | (with_reducible exact LeO.refl _)
   | (with_reducible exact LeO.none _)
   | (with_reducible refine LeO.ite ?_ ?_)
   | (with_reducible refine LeO.bind ?_ (fun _=>?_))
   | exact ih0 _ _ _
   | exact LeO.none _
   | refine LeO.ite ?_ ?_
   | refine LeO.bind ?_ (fun _=>?_)
theorem slices_Max_int_int.mono : ∀ a0 k,LeO (slices_Max_int_int.f k a0) (slices_Max_int_int.f (k + 1) a0):=by
 intro a0 k
 have ih0:=slices_Max_int_int.mono_l k
 unfold slices_Max_int_int.f
 repeat' first
   | (with_reducible exact ih0 _ _ _)
   | (with_reducible exact LeO.refl _)
   | (with_reducible exact LeO.none _)
   | (with_reducible refine LeO.ite ?_ ?_)
   | (with_reducible refine LeO.bind ?_ (fun _=>?_))
   | exact ih0 _ _ _
   | exact LeO.none _
   | refine LeO.ite ?_ ?_
   | refine LeO.bind ?_ (fun _=>?_)
set_option maxHeartbeats 8000000 in
set_option maxRecDepth 100000 in
theorem slices_Max_int_int.calls (k : Nat) (A0 : Option Addr) (c0 : Nat) (l0 : List Int) (r : Int) (w : World) (hr0 : Kd.C (Kd.int .i64) w A0 l0.length l0) (hc0 : l0.length ≤ c0) (h : slices_Max_int_int.f k l0 = some r) :
  Calls Try.prog 89 #[.slice A0 l0.length c0] w fun e w'=>e = .returned (.int .i64 r) ∧ Below w.heap.size w w':=by
 have HR0:=Aside0.mk hr0
 have HC0:=Aside0.mk hc0
 clear hr0 hc0
 have HB:=Aside0.mk (Below.refl w.heap.size w)
 have H : (if (l0.length : Int) < 1 then (none) else (if 0 < (l0.length : Int) then (slices_Max_int_int.l0 k l0 (rd l0 0) 1) else (none))) = some r:=h
 clear h
 by_cases c2 : (l0.length : Int) < 1
 ·rw [if_pos c2] at H
  exact absurd H (by simp)
 ·rw [if_neg c2] at H
  have c2b0 : decide ((l0.length : Int) < 1) = false:=decide_eq_false c2
  have c2b1 : decide (l0.length < 1) = false:=decide_eq_false (by omega)
  clear c2
  by_cases c3 : 0 < (l0.length : Int)
  ·rw [if_pos c3] at H
   have c3b0 : decide (0 < (l0.length : Int)) = true:=decide_eq_true c3
   have c3b1 : decide (0 < l0.length) = true:=decide_eq_true (by omega)
   clear c3
   have H':=Aside0.mk H
   clear H
   have p260 : 0 ≤ (0 : Int):=(by omega)
   have q260 : 0 < (l0.length : Int):=of_decide_eq_true az
   obtain ⟨ad260,e260,hx260_0⟩:=Kd.at_int HR0.out 0 p260 q260
   cases e260
   have qi260 : (0 < l0.length) = True:=eq_true (by omega)
   (try rw [show ((0 : Int)).toNat = 0 from rfl] at hx260_0)
   (try rw [Addr.add_zero'] at hx260_0)
   replace p260:=eq_true p260
   replace q260:=eq_true q260
   go_enter Try.func89,Try.ntmps89
   go_wp2
   go_loopg [3,4] k (fun kq v3 v4 w'=>∃ (x3_1 : Int) (x4_1 : Int),v3 = .int .i64 x3_1 ∧ v4 = .int .i64 x4_1 ∧ Aside0 (slices_Max_int_int.l0 kq l0 x3_1 x4_1 = some r) ∧ Aside0 (kq ≤ k) ∧ Aside0 (Below w.heap.size w w'))
   case atStart=>exact ⟨(rd l0 0),(1),fz,fz,H',⟨Nat.le_refl _⟩,⟨by repeat (first|(with_reducible first|exact HB.out|apply below_alloc|apply pw_below_drewN|apply below_drew1)|exact HB.out)⟩⟩
   case round=>
    clear H'
    try clear c2
    try clear c2b0
    try clear c2b1
    try clear p2
    try clear q2
    try clear hx2
    try clear qi2
    try clear c3
    try clear c3b0
    try clear c3b1
    try clear hx260_0
    try clear p260
    try clear q260
    obtain ⟨x3_1,x4_1,rfl,rfl,HA,HK1,HB⟩:=hrel
    cases gk with
    | zero=>exact absurd HA.out (by simp [slices_Max_int_int.l0])
    | succ k1=>
     have H:=HA.out
     clear HA
     simp only [slices_Max_int_int.l0] at H
     by_cases c4 : x4_1 < (l0.length : Int)
     ·rw [if_pos c4] at H
      have c4b0 : decide (x4_1 < (l0.length : Int)) = true:=decide_eq_true c4
      clear c4
      by_cases c5 : 0 ≤ x4_1
      ·rw [if_pos c5] at H
       have c5b0 : decide (0 ≤ x4_1) = true:=decide_eq_true c5
       clear c5
       obtain ⟨ji6,hji6⟩ : ∃ j_ : Int,(mx x3_1 (rd l0 x4_1)) = j_:=⟨_,rfl⟩
       replace H : (slices_Max_int_int.l0 k1 l0 ji6 (wrap64 (x4_1 + 1))) = some r:=by first|(rw [hji6] at H;exact H)|(simp only [hji6] at H ⊢;exact H)
       have hji6_ : (if x3_1 < (rd l0 x4_1) then (rd l0 x4_1) else x3_1) = ji6:=hji6
       have H':=Aside0.mk H
       clear H
       have p261 : 0 ≤ (x4_1 : Int):=of_decide_eq_true az
       have q261 : x4_1 < (l0.length : Int):=of_decide_eq_true az
       obtain ⟨ad261,e261,hx261_0⟩:=Kd.at_int HR0.out x4_1 p261 q261
       obtain rfl : ad260 = ad261:=(by injection e261)
       replace hx261_0:=(HB.out.cell (World.block_lt_of_cell? w _ hx261_0)).trans hx261_0
       replace p261:=eq_true p261
       replace q261:=eq_true q261
       go_wp2
       go_roundg k1
       case measure=>have:=HK1.out;omega
       case rel=>exact ⟨(ji6),(wrap64 (x4_1 + 1)),(by first|rfl|(simp;done)|(simp only [← hji6] <;> (first|rfl|simp))|(simp [*];done)),fz,H',⟨by have:=HK1.out;omega⟩,⟨by repeat (first|(with_reducible first|exact HB.out|apply below_alloc|apply pw_below_drewN|apply below_drew1)|exact HB.out)⟩⟩
      ·rw [if_neg c5] at H
       exact absurd H (by simp)
     ·rw [if_neg c4] at H
      have c4b0 : decide (x4_1 < (l0.length : Int)) = false:=decide_eq_false c4
      clear c4
      obtain rfl:=Option.some.inj H
      go_wp2
      go_ret
      exact ⟨by first|rfl|(simp [errW_none,errW_some] <;> rfl)|(simp [*,errW_none,errW_some] <;> rfl),by repeat (first|(with_reducible first|exact HB.out|apply below_alloc|apply pw_below_drewN|apply below_drew1)|exact HB.out)⟩
  ·rw [if_neg c3] at H
   exact absurd H (by simp)
/-! ### impl_Plan_many: function 92 -/
def impl_Plan_many.f (a0_0 : Int) (l0_1 : List (S73)) (l0_2 : List Int) : Option (Int):=some (wrap64 (a0_0 + (l0_1.length : Int)))
set_option maxHeartbeats 8000000 in
set_option maxRecDepth 100000 in
theorem impl_Plan_many.calls (g0_ : Nat) (a0_0 : Int) (A0_1 : Option Addr) (c0_1 : Nat) (l0_1 : List (S73)) (A0_2 : Option Addr) (c0_2 : Nat) (l0_2 : List Int) (r : Int) (w : World) (hx0_ : w.heap[g0_]? = some (.cells #[.int .i64 a0_0,.slice A0_1 l0_1.length c0_1,.slice A0_2 l0_2.length c0_2] 29 (0,0))) (hr0_1 : Kd.C k73 w A0_1 l0_1.length l0_1) (hc0_1 : l0_1.length ≤ c0_1) (hr0_2 : Kd.C (Kd.int .i64) w A0_2 l0_2.length l0_2) (hc0_2 : l0_2.length ≤ c0_2) (h : impl_Plan_many.f a0_0 l0_1 l0_2 = some r) :
  Calls Try.prog 92 #[.pointer (some ⟨g0_,0,none⟩)] w fun e w'=>e = .returned (.int .i64 r) ∧ Below w.heap.size w w':=by
 have HR0_1:=Aside0.mk hr0_1
 have HC0_1:=Aside0.mk hc0_1
 clear hr0_1 hc0_1
 have HR0_2:=Aside0.mk hr0_2
 have HC0_2:=Aside0.mk hc0_2
 clear hr0_2 hc0_2
 have BK0:=Aside0.mk hx0_
 clear hx0_
 have HB:=Aside0.mk (Below.refl w.heap.size w)
 have H : (some (wrap64 (a0_0 + (l0_1.length : Int)))) = some r:=h
 clear h
 obtain rfl:=Option.some.inj H
 have hcz2_0 : w.cell? ⟨g0_,0,none⟩ = some (.int .i64 a0_0):=(blk_cell BK0.out 0).trans rfl
 have hcz2_1 : w.cell? ⟨g0_,1,none⟩ = some (.slice A0_1 l0_1.length c0_1):=(blk_cell BK0.out 1).trans rfl
 have hcz2_2 : w.cell? ⟨g0_,2,none⟩ = some (.slice A0_2 l0_2.length c0_2):=(blk_cell BK0.out 2).trans rfl
 have hfz2_0:=blk_frozen BK0.out 0
 have hfz2_1:=blk_frozen BK0.out 1
 have hfz2_2:=blk_frozen BK0.out 2
 go_enter Try.func92,Try.ntmps92
 go_wp2
 repeat (go_quiet (fail);try go_wp2)
 go_ret
 exact ⟨by first|rfl|(simp [errW_none,errW_some] <;> rfl)|(simp [*,errW_none,errW_some] <;> rfl),by repeat (first|(with_reducible first|exact HB.out|apply below_alloc|apply pw_below_drewN|apply below_drew1|refine below_set ?_ GE0.out)|exact HB.out)⟩
/-! ### impl_in: function 100 -/
def impl_in.f (a0 : Int) (a1 : Int) (a2 : Int) : Option (Bool):=if a0 ≥ a1 then (some (decide (a0 ≤ a2))) else (some false)
set_option maxHeartbeats 8000000 in
set_option maxRecDepth 100000 in
theorem impl_in.calls (a0 : Int) (a1 : Int) (a2 : Int) (r : Bool) (w : World) (h : impl_in.f a0 a1 a2 = some r) :
  Calls Try.prog 100 #[.int .i64 a0,.int .i64 a1,.int .i64 a2] w fun e w'=>e = .returned (.bool r) ∧ Drawn0 w w':=by
 have H : (if a0 ≥ a1 then (some (decide (a0 ≤ a2))) else (some false)) = some r:=h
 clear h
 by_cases c4 : a0 ≥ a1
 ·rw [if_pos c4] at H
  have c4b0 : decide (a1 ≤ a0) = true:=decide_eq_true c4
  clear c4
  obtain rfl:=Option.some.inj H
  go_enter Try.func100,Try.ntmps100
  go_wp2
  go_ret
  exact ⟨by first|rfl|(simp;done)|(simp [*];done),by repeat (first|exact Drawn0.refl _|apply Drawn0.step)⟩
 ·rw [if_neg c4] at H
  have c4b0 : decide (a1 ≤ a0) = false:=decide_eq_false c4
  clear c4
  obtain rfl:=Option.some.inj H
  go_enter Try.func100,Try.ntmps100
  go_wp2
  go_ret
  exact ⟨by first|rfl|(simp;done)|(simp [*];done),by repeat (first|exact Drawn0.refl _|apply Drawn0.step)⟩
end Go.Proofs.Ytdcdaoancmpbeaa.MFnExactJoinPlans
--sq
