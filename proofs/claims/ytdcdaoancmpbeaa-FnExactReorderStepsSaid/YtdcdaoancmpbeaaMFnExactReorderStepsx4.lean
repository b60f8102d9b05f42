import Derived.Test.YtdcdaoancmpbeaaMFnExactReorderStepsx0
import Derived.Test.YtdcdaoancmpbeaaMFnExactReorderStepsx3
namespace Go.Proofs.Ytdcdaoancmpbeaa.MFnExactReorderSteps
open Go.RowKit Go.Proofs.YtdcdaoancmpbeaaW.PrintWords Go.Proofs.YtdcdaoancmpbeaaW.PrintLast Go.Proofs.YtdcdaoancmpbeaaW.PrintMore Go.Proofs.YtdcdaoancmpbeaaV Go.Proofs.YtdcdaoancmpbeaaZ
attribute [local go_sem] max2_int min2_int max_two min_two max_three min_three max_four min_four   -- for this text's walks alone
set_option linter.unusedVariables false
set_option linter.unusedSimpArgs false
/-! ### spec_plExponents: function 83 -/
mutual
def spec_plExponents.l0 : Nat → List (List Int) → Int → Int → List (S73) → List Int → Option ((List (List Int)))
 | 0,_,_,_,_,_=>none
 | k + 1,x3,x4,x160000,x160001,x160002=>if x4 < x160000 then (if 0 ≤ x160000 then (if (x160000 : Int).toNat ≤ 35184372088832 then ((some (List.replicate (x160000 : Int).toNat 0 : List Int)).bind fun y160=>(if 0 ≤ x4 then (if x4 < (y160.length : Int) then (if x3.length < 5864062014805 then (spec_plExponents.l0 k (x3 ++ [(y160.set (x4 : Int).toNat 1)]) (wrap64 (x4 + 1)) x160000 x160001 x160002) else (none)) else (none)) else (none))) else (none)) else (none)) else (spec_plExponents.l1 k x3 x160001 (x160001.length : Int) 0)
def spec_plExponents.l1 : Nat → List (List Int) → List (S73) → Int → Int → Option ((List (List Int)))
 | 0,_,_,_,_=>none
 | k + 1,x3,x25,x26,x27=>if x27 < x26 then (if 0 ≤ x27 then (if x27 < (x25.length : Int) then (if 0 ≤ ((rd_T73 x25 x27).f0) then (if ((rd_T73 x25 x27).f0) < (x3.length : Int) then (if 0 ≤ ((rd_T73 x25 x27).f1) then (if ((rd_T73 x25 x27).f1) < (x3.length : Int) then ((spec_plSum.f k (rd_L3 x3 ((rd_T73 x25 x27).f0)) (rd_L3 x3 ((rd_T73 x25 x27).f1))).bind fun t171=>(if x3.length < 5864062014805 then (spec_plExponents.l1 k (x3 ++ [t171]) x25 x26 (wrap64 (x27 + 1))) else (none))) else (none)) else (none)) else (none)) else (none)) else (none)) else (none)) else (some x3)
end
def spec_plExponents.f (k : Nat) (a0_0 : Int) (l0_1 : List (S73)) (l0_2 : List Int) : Option ((List (List Int))):=spec_plExponents.l0 k ([] : List (List Int)) 0 a0_0 l0_1 l0_2
theorem spec_plExponents.mono_l : ∀ k,(∀ y0 y1 y2 y3 y4,LeO (spec_plExponents.l0 k y0 y1 y2 y3 y4) (spec_plExponents.l0 (k + 1) y0 y1 y2 y3 y4)) ∧ (∀ y0 y1 y2 y3,LeO (spec_plExponents.l1 k y0 y1 y2 y3) (spec_plExponents.l1 (k + 1) y0 y1 y2 y3))
 | 0=>⟨fun _ _ _ _ _ r h=>by simp [spec_plExponents.l0] at h,fun _ _ _ _ r h=>by simp [spec_plExponents.l1] at h⟩
 | k + 1=>by
  obtain ⟨ih0,ih1⟩:=spec_plExponents.mono_l k
  refine ⟨?_,?_⟩
  ·intro y0 y1 y2 y3 y4
   unfold spec_plExponents.l0
   repeat' first
   | (with_reducible exact ih0 _ _ _ _ _)
   | (with_reducible exact ih1 _ _ _ _)
   | (with_reducible exact spec_plSum.mono _ _ _)
   | (with_reducible exact LeO.refl _)
   | (with_reducible exact LeO.none _)
   | (with_reducible refine LeO.ite ?_ ?_)
   | (with_reducible refine LeO.bind ?_ (fun _=>?_))
   | exact ih0 _ _ _ _ _
   | exact ih1 _ _ _ _
   | exact spec_plSum.mono _ _ _
   | exact LeO.none _
   | refine LeO.ite ?_ ?_
   | refine LeO.bind ?_ (fun _=>?_)
  ·intro y0 y1 y2 y3
   unfold spec_plExponents.l1
   repeat' first
   | (with_reducible exact ih0 _ _ _ _ _)
   | (with_reducible exact ih1 _ _ _ _)
   | (with_reducible exact spec_plSum.mono _ _ _)
   | (with_reducible exact LeO.refl _)
   | (with_reducible exact LeO.none _)
   | (with_reducible refine LeO.ite ?_ ?_)
   | (with_reducible refine LeO.bind ?_ (fun _=>?_))
   | exact ih0 _ _ _ _ _
   | exact ih1 _ _ _ _
   | exact spec_plSum.mono _ _ _
   | exact LeO.none _
   | refine LeO.ite ?_ ?_
   | refine LeO.bind ?_ (fun _=>?_)
theorem spec_plExponents.mono : ∀ a0 a1 a2 k,LeO (spec_plExponents.f k a0 a1 a2) (spec_plExponents.f (k + 1) a0 a1 a2):=by
 intro a0 a1 a2 k
 obtain ⟨ih0,ih1⟩:=spec_plExponents.mono_l k
 unfold spec_plExponents.f
 repeat' first
   | (with_reducible exact ih0 _ _ _ _ _)
   | (with_reducible exact ih1 _ _ _ _)
   | (with_reducible exact spec_plSum.mono _ _ _)
   | (with_reducible exact LeO.refl _)
   | (with_reducible exact LeO.none _)
   | (with_reducible refine LeO.ite ?_ ?_)
   | (with_reducible refine LeO.bind ?_ (fun _=>?_))
   | exact ih0 _ _ _ _ _
   | exact ih1 _ _ _ _
   | exact spec_plSum.mono _ _ _
   | exact LeO.none _
   | refine LeO.ite ?_ ?_
   | refine LeO.bind ?_ (fun _=>?_)
def spec_plExponents.T11 : Bool × List (List Nat × List Nat):=(true,[([],[]),([],[]),([],[]),([2],[2]),([1,3],[1,3]),([4],[4]),([],[]),([],[]),([7],[7]),([6,8],[6,8]),([9],[9]),([5,10],[5,10]),([11],[11]),([0,12,11],[0,12]),([13,13,0,1,2,3,4,5,6,7,8,9,10,11,12,13],[0,1,6,13])])
def spec_plExponents.B11 : List Nat:=[0,0,0,4,14,30,0,0,128,448,960,2046,4094,8191,16383]
theorem spec_plExponents.tab11 : rtab .any (opsOf Try.f83 11) = spec_plExponents.T11:=by kernel_rfl
theorem spec_plExponents.bits11 : waitsOk spec_plExponents.T11.2 spec_plExponents.B11 = true:=by kernel_rfl
set_option maxHeartbeats 8000000 in
set_option maxRecDepth 100000 in
theorem spec_plExponents.calls (k : Nat) (a0_0 : Int) (A0_1 : Option Addr) (c0_1 : Nat) (l0_1 : List (S73)) (A0_2 : Option Addr) (c0_2 : Nat) (l0_2 : List Int) (r : List (List Int)) (w : World) (hr0_1 : Kd.C k73 w A0_1 l0_1.length l0_1) (hc0_1 : l0_1.length ≤ c0_1) (hr0_2 : Kd.C (Kd.int .i64) w A0_2 l0_2.length l0_2) (hc0_2 : l0_2.length ≤ c0_2) (h : spec_plExponents.f k a0_0 l0_1 l0_2 = some r) :
  Calls Try.prog 83 #[.agg #[.int .i64 a0_0,.slice A0_1 l0_1.length c0_1,.slice A0_2 l0_2.length c0_2]] w fun e w'=>∃ v0_ : Value,e = .returned (v0_) ∧ Kd.S (Kd.slice 3 (Kd.int .i64)) 23 w' w.heap.size (fun _=>True) v0_ r ∧ Below w.heap.size w w':=by
 have hu29:=Try.underlying29
 have hu73:=Try.underlying73
 have HR0_1:=Aside0.mk hr0_1
 have HC0_1:=Aside0.mk hc0_1
 clear hr0_1 hc0_1
 have HR0_2:=Aside0.mk hr0_2
 have HC0_2:=Aside0.mk hc0_2
 clear hr0_2 hc0_2
 have HB:=Aside0.mk (Below.refl w.heap.size w)
 have H : (spec_plExponents.l0 k ([] : List (List Int)) 0 a0_0 l0_1 l0_2) = some r:=h
 clear h
 have H':=Aside0.mk H
 clear H
 go_enter Try.func83,Try.ntmps83
 go_wp2_with (first|((with_reducible refine gate_dst (N:=1) rfl ?_);refine box_event ?hg (N:=1) ?hd (cs:=#[.int .i64 a0_0,.slice A0_1 l0_1.length c0_1,.slice A0_2 l0_2.length c0_2]) (t:=29) ?hr ?_;(case hd=>rfl);(case hg=>rfl);(case hr=>first|(go_simp;done)|(go_simp;rfl));intro gb159 hg w2 hbox hb;have n0_:=Aside0.mk (below_step bz hb);have n1_:=Aside0.mk (hbox);have n2_:=Aside0.mk ((by rw [hg];exact (below_size bz) : w.heap.size ≤ gb159));have n3_:=Aside0.mk ((by rw [hg];exact (below_size bz) : w.heap.size ≤ gb159));clear HB;have HB:=n0_;have BK159:=n1_;have GW159:=n2_;have GE159:=n3_;clear n0_ n1_ n2_ n3_;clear hb hbox hg))
 go_loopg [3,4] k (fun kq v3 v4 w'=>∃ (x3_1 : List (List Int)) (x4_1 : Int),v4 = .int .i64 x4_1 ∧ Aside0 (spec_plExponents.l0 kq x3_1 x4_1 a0_0 l0_1 l0_2 = some r) ∧ Aside0 (kq ≤ k) ∧ Aside0 (Kd.S (Kd.slice 3 (Kd.int .i64)) 23 w' w.heap.size (fun _=>True) v3 x3_1) ∧ Aside0 (w'.heap[gb159]? = some (.cells #[.int .i64 a0_0,(.slice A0_1 l0_1.length c0_1),(.slice A0_2 l0_2.length c0_2)] 29 (0,0))) ∧ Aside0 (Below w.heap.size w w'))
 case atStart=>exact ⟨(([] : List (List Int))),(0),fz,H',⟨Nat.le_refl _⟩,⟨by first|exact Kd.S_nil _ _ _ _ _|exact Kd.N_nil _ _ _ _ _|exact Kd.V_nil _ _ _ _ _|exact Kd.Q_nil _ _ _ _ _|exact Kd.R_nil _ _ _ _ _⟩,⟨by (with_reducible repeat (first|refine blk_drewN ?_ _|refine blk_drew ?_|refine blk_alloc ?_ _));exact BK159.out⟩,⟨by repeat (first|(with_reducible first|exact HB.out|apply below_alloc|apply pw_below_drewN|apply below_drew1|refine below_set ?_ GE159.out)|exact HB.out)⟩⟩
 case round=>
  clear H'
  try clear p2
  obtain ⟨x3_1,x4_1,rfl,HA,HK1,HO_3,BK159,HB⟩:=hrel
  cases gk with
  | zero=>exact absurd HA.out (by simp [spec_plExponents.l0])
  | succ k1=>
   have H:=HA.out
   clear HA
   simp only [spec_plExponents.l0] at H
   by_cases c3 : x4_1 < a0_0
   ·rw [if_pos c3] at H
    have c3b0 : decide (x4_1 < a0_0) = true:=decide_eq_true c3
    clear c3
    by_cases c4 : 0 ≤ a0_0
    ·rw [if_pos c4] at H
     have c4b0:=eq_true c4
     have c4b1 : decide (0 ≤ a0_0) = true:=decide_eq_true c4
     clear c4
     by_cases c5 : (a0_0 : Int).toNat ≤ 35184372088832
     ·rw [if_pos c5] at H
      have c5b0:=eq_true c5
      have c5b1 : decide ((a0_0 : Int).toNat ≤ 35184372088832) = true:=decide_eq_true c5
      clear c5
      obtain ⟨y160,hy160⟩ : ∃ y_ : List Int,y_ = (List.replicate (a0_0 : Int).toNat 0):=⟨_,rfl⟩
      replace H : (if 0 ≤ x4_1 then (if x4_1 < (y160.length : Int) then (if x3_1.length < 5864062014805 then (spec_plExponents.l0 k1 (x3_1 ++ [(y160.set (x4_1 : Int).toNat 1)]) (wrap64 (x4_1 + 1)) a0_0 l0_1 l0_2) else (none)) else (none)) else (none)) = some r:=by first|(rw [hy160];with_reducible exact H)|(have H2_:=(Option.bind_some _ _).symm.trans H;rw [hy160];with_reducible exact H2_)|(have H2_:=(Option.bind_some _ _).symm.trans H;with_reducible exact H2_)|with_reducible exact H|(rw [hy160];exact H)|exact H
      have Ny160:=Aside0.mk hy160
      clear hy160
      by_cases c6 : 0 ≤ x4_1
      ·rw [if_pos c6] at H
       have c6b0 : decide (0 ≤ x4_1) = true:=decide_eq_true c6
       clear c6
       by_cases c7 : x4_1 < (y160.length : Int)
       ·rw [if_pos c7] at H
        have c7b0 : decide (x4_1 < (y160.length : Int)) = true:=decide_eq_true c7
        clear c7
        obtain ⟨y163,hy163⟩ : ∃ y_ : List Int,y_ = (y160.set (x4_1 : Int).toNat 1):=⟨_,rfl⟩
        replace H : (if x3_1.length < 5864062014805 then (spec_plExponents.l0 k1 (x3_1 ++ [y163]) (wrap64 (x4_1 + 1)) a0_0 l0_1 l0_2) else (none)) = some r:=by first|(rw [hy163];with_reducible exact H)|(have H2_:=(Option.bind_some _ _).symm.trans H;rw [hy163];with_reducible exact H2_)|(have H2_:=(Option.bind_some _ _).symm.trans H;with_reducible exact H2_)|with_reducible exact H|(rw [hy163];exact H)|exact H
        have Ny163:=Aside0.mk hy163
        clear hy163
        by_cases c9 : x3_1.length < 5864062014805
        ·rw [if_pos c9] at H
         have LMc9:=Aside0.mk c9
         clear c9
         obtain ⟨y164,hy164⟩ : ∃ y_ : List (List Int),y_ = (x3_1 ++ [y163]):=⟨_,rfl⟩
         replace H : (spec_plExponents.l0 k1 y164 (wrap64 (x4_1 + 1)) a0_0 l0_1 l0_2) = some r:=by first|(rw [hy164];with_reducible exact H)|(have H2_:=(Option.bind_some _ _).symm.trans H;rw [hy164];with_reducible exact H2_)|(have H2_:=(Option.bind_some _ _).symm.trans H;with_reducible exact H2_)|with_reducible exact H|(rw [hy164];exact H)|exact H
         have Ny164:=Aside0.mk hy164
         clear hy164
         have H':=Aside0.mk H
         clear H
         have hcz10_0 : wr.cell? ⟨gb159,0,none⟩ = some (.int .i64 a0_0):=(blk_cell BK159.out 0).trans rfl
         have hcz10_1 : wr.cell? ⟨gb159,1,none⟩ = some (.slice A0_1 l0_1.length c0_1):=(blk_cell BK159.out 1).trans rfl
         have hcz10_2 : wr.cell? ⟨gb159,2,none⟩ = some (.slice A0_2 l0_2.length c0_2):=(blk_cell BK159.out 2).trans rfl
         have hfz10_0:=blk_frozen BK159.out 0
         have hfz10_1:=blk_frozen BK159.out 1
         have hfz10_2:=blk_frozen BK159.out 2
         go_wp2_with (first|((with_reducible refine gate_dst (N:=16) rfl ?_);refine Kd.R_make (Kd.int .i64) _ 3 rfl (N:=16) rfl 23 _ _ rfl a0_0 rfl rfl Try.underlying23 (.int .i64 0) 8 info3 rfl (by decide) (by omega) 0 (ok:=fun _=>True) (okp:=fun _=>True) rfl (fun _ hk=>hk) trivial (of_decide_eq_true az) (Nat.le_trans (Nat.mul_le_mul_right _ (of_decide_eq_true az : a0_0.toNat ≤ 35184372088832)) (by omega)) (Below.refl _ _) (Nat.le_refl _) ?_;intro v161 w11 ho12 hb hg_ hnew_;clear hg_ hnew_;(first|rw [← Ny160.out] at ho12|(simp only [Int.reduceToNat] at ho12;rw [← Ny160.out] at ho12));have n0_:=Aside0.mk (Kd.S_elder' (by (with_reducible repeat (first|apply Kd.S_alloc|apply Kd.S_drewN|apply Kd.S_drew));exact HO_3.out) (Kd.R_base ho12) hb);have n1_:=Aside0.mk (Kd.R_lower ho12 (below_size bs));have n2_:=Aside0.mk (kb BK159.out hb);have n3_:=Aside0.mk (below_step bs hb);clear HO_3 BK159 HB;have HO_3:=n0_;have HO162:=n1_;have BK159:=n2_;have HB:=n3_;clear n0_ n1_ n2_ n3_;clear hb ho12;have p8 : 0 ≤ (x4_1 : Int):=of_decide_eq_true az;have q8 : (x4_1 : Int) < ((y160.length : Int) : Int):=of_decide_eq_true az;obtain ⟨go8,co8,eo8,gb8,gl8,cl8,HG8⟩:=Kd.R_form HO162.out (by omega);(first|cases eo8|(injection eo8 with ea_ en_ ec_;(first|subst ea_|(injection ea_ with ea_;subst ea_));subst ec_;clear en_));have GB8:=Aside0.mk gb8;have GG8:=Aside0.mk HG8;clear gb8 gl8 HG8;obtain ⟨hx8_0,hf8_0⟩:=Kd.R_celln 0 HO162.out (x4_1 : Int) p8 q8;replace p8:=eq_true p8;replace q8:=eq_true q8;obtain ⟨hy13_,hz13_⟩:=Kd.R_celln 0 HO162.out (x4_1 : Int) (of_decide_eq_true az) (of_decide_eq_true az);have HP13:=Kd.R_putg HO162.out (x4_1 : Int) 1)|((with_reducible refine gate_store (t:=3) (p:=19) rfl ?_);refine store_event (t:=3) (p:=19) (v:=?vo_w14) (w1:=(w11.setCell ⟨go8,(x4_1 : Int).toNat,none⟩ (.int .i64 1))) ?hg ?ho ?hn ?hr ?_;(case ho=>rfl);(case hg=>rfl);(case hn=>rfl);(case hr=>first|(go_simp;done)|(go_simp;rfl));intro w14 hw;have hg : w11.grownBy w14 (some go8):=(by rw [hw];exact HP13.2);have hp_ : Kd.R (Kd.int .i64) 3 w14 w.heap.size (fun _=>True) (.slice (some ⟨go8,0,none⟩) y160.length co8) y163:=(by rw [hw,Ny163.out];exact HP13.1);clear HP13;have n0_:=Aside0.mk (Kd.S_after (v:=(.slice (some ⟨go8,0,none⟩) y160.length co8)) (v1:=(.slice (some ⟨go8,0,none⟩) y160.length co8)) (ok:=(fun _=>True)) (by (with_reducible repeat (first|apply Kd.S_alloc|apply Kd.S_drewN|apply Kd.S_drew));exact HO_3.out) hg (.inl rfl));have n1_:=Aside0.mk (blk_grown (g:=gb159) (o:=.cells #[.int .i64 a0_0,.slice A0_1 l0_1.length c0_1,.slice A0_2 l0_2.length c0_2] 29 (0,0)) (kz BK159.out) hg (Kd.R_ne HO162.out BK159.out (by decide)));have n2_:=Aside0.mk (hp_);have n3_:=Aside0.mk ((by rw [hw];exact below_set (HB.out) GB8.out : Below w.heap.size w w14));clear HO_3 BK159 HO162 HB;have HO_3:=n0_;have BK159:=n1_;have HO162:=n2_;have HB:=n3_;clear n0_ n1_ n2_ n3_;clear hg hw hp_)|((with_reducible refine gate_builtin (b:=.append) (xs:=#[.tmp 20,.tmp 22]) rfl ?_);at_builtin;refine Kd.S_append (Kd.slice 3 (Kd.int .i64)) (w0:=w) w.heap.size rfl (.tmp 20) (.tmp 22) 50 23 (.slice none 0 0) 24 rfl Try.underlying50 info23 rfl (by decide) (by omega) u3 x3_1 y163 [.slice (some ⟨go8,0,none⟩) y160.length co8] (fun _=>True) (fun k_=>some k_ = (.slice (some ⟨go8,0,none⟩) y160.length co8 : Value).ownBlock) rfl rfl ?aP (fun k_ hk_=>((Kd.R_mono (ok':=fun k_=>((fun _=>True)) k_ ∧ some k_ ≠ (u3 : Value).ownBlock) (Kd.R_apart' (HO162.out) (Kd.S_typed HO_3.out) (by decide)) (fun k_ hk=>⟨trivial,hk.2⟩))).1 k_ hk_.symm) ?aF ?aO ?aB ?aS ?aL ?_;(case aP=>exact Kd.M_row (Kd.R_mono (Kd.R_tight rfl (Kd.R_mono (ok':=fun k_=>((fun _=>True)) k_ ∧ some k_ ≠ (u3 : Value).ownBlock) (Kd.R_apart' (HO162.out) (Kd.S_typed HO_3.out) (by decide)) (fun k_ hk=>⟨trivial,hk.2⟩))) (fun _ h_=>h_)));(case aB=>exact bs);(case aF=>exact (fun _ _=>trivial));(case aO=>exact (by (with_reducible repeat (first|apply Kd.S_alloc|apply Kd.S_drewN|apply Kd.S_drew));exact Kd.S_mono HO_3.out (fun k_ hk=>⟨trivial,fun e_=>hk.2 e_⟩)));(case aS=>exact (below_size bs));(case aL=>have:=LMc9.out;omega);intro v165 w15 ho hb hg hat;rw [← Ny164.out] at ho;have n0_:=Aside0.mk (blk_grown (g:=gb159) (o:=.cells #[.int .i64 a0_0,.slice A0_1 l0_1.length c0_1,.slice A0_2 l0_2.length c0_2] 29 (0,0)) (kz BK159.out) hg (Kd.S_ne HO_3.out BK159.out (by decide)));have n1_:=Aside0.mk (hb);have n2_:=Aside0.mk (ho);clear BK159 HB HO_3 HO162;have BK159:=n0_;have HB:=n1_;have HO166:=n2_;clear n0_ n1_ n2_;clear ho hb hg hat))
         go_roundg k1
         case measure=>have:=HK1.out;omega
         case rel=>exact ⟨(y164),(wrap64 (x4_1 + 1)),fz,H',⟨by have:=HK1.out;omega⟩,⟨by (with_reducible repeat (first|apply Kd.S_alloc|apply Kd.S_drewN|apply Kd.S_drew));exact HO166.out⟩,⟨by (with_reducible repeat (first|refine blk_drewN ?_ _|refine blk_drew ?_|refine blk_alloc ?_ _));exact BK159.out⟩,⟨by repeat (first|(with_reducible first|exact HB.out|apply below_alloc|apply pw_below_drewN|apply below_drew1|refine below_set ?_ GE159.out)|exact HB.out)⟩⟩
        ·rw [if_neg c9] at H
         exact absurd H (by simp)
       ·rw [if_neg c7] at H
        exact absurd H (by simp)
      ·rw [if_neg c6] at H
       exact absurd H (by simp)
     ·rw [if_neg c5] at H
      exact absurd H (by simp)
    ·rw [if_neg c4] at H
     exact absurd H (by simp)
   ·rw [if_neg c3] at H
    have c3b0 : decide (x4_1 < a0_0) = false:=decide_eq_false c3
    clear c3
    have H':=Aside0.mk H
    clear H
    have hcz16_0 : wr.cell? ⟨gb159,0,none⟩ = some (.int .i64 a0_0):=(blk_cell BK159.out 0).trans rfl
    have hcz16_1 : wr.cell? ⟨gb159,1,none⟩ = some (.slice A0_1 l0_1.length c0_1):=(blk_cell BK159.out 1).trans rfl
    have hcz16_2 : wr.cell? ⟨gb159,2,none⟩ = some (.slice A0_2 l0_2.length c0_2):=(blk_cell BK159.out 2).trans rfl
    have hfz16_0:=blk_frozen BK159.out 0
    have hfz16_1:=blk_frozen BK159.out 1
    have hfz16_2:=blk_frozen BK159.out 2
    go_wp2
    go_loopg [3,27] k1 (fun kq v3 v27 w'=>∃ (x3_2 : List (List Int)) (x27_2 : Int),v27 = .int .i64 x27_2 ∧ Aside0 (spec_plExponents.l1 kq x3_2 l0_1 (l0_1.length : Int) x27_2 = some r) ∧ Aside0 (kq ≤ k1) ∧ Aside0 (Kd.S (Kd.slice 3 (Kd.int .i64)) 23 w' w.heap.size (fun _=>True) v3 x3_2) ∧ Aside0 (w'.heap[gb159]? = some (.cells #[.int .i64 a0_0,(.slice A0_1 l0_1.length c0_1),(.slice A0_2 l0_2.length c0_2)] 29 (0,0))) ∧ Aside0 (Below w.heap.size w w'))
    case atStart=>exact ⟨(x3_1),(0),fz,H',⟨Nat.le_refl _⟩,⟨by (with_reducible repeat (first|apply Kd.S_alloc|apply Kd.S_drewN|apply Kd.S_drew));exact HO_3.out⟩,⟨by (with_reducible repeat (first|refine blk_drewN ?_ _|refine blk_drew ?_|refine blk_alloc ?_ _));exact BK159.out⟩,⟨by repeat (first|(with_reducible first|exact HB.out|apply below_alloc|apply pw_below_drewN|apply below_drew1|refine below_set ?_ GE159.out)|exact HB.out)⟩⟩
    case round=>
     clear H'
     try clear p2
     try clear c3
     try clear c3b0
     try clear c4
     try clear c4b0
     try clear c4b1
     try clear c5
     try clear c5b0
     try clear c5b1
     try clear c6
     try clear c6b0
     try clear p6
     try clear c7
     try clear c7b0
     try clear c8
     try clear p8
     try clear q8
     try clear hx8
     try clear hf8
     try clear c9
     try clear hcz10_0
     try clear hcz10_1
     try clear hcz10_2
     try clear hcz16_0
     try clear hcz16_1
     try clear hcz16_2
     try clear hfz10_0
     try clear hfz10_1
     try clear hfz10_2
     try clear hfz16_0
     try clear hfz16_1
     try clear hfz16_2
     try clear hx8_0
     try clear p2
     try clear p8
     try clear q8
     obtain ⟨x3_2,x27_2,rfl,HA,HK2,HO_3,BK159,HB⟩:=hrel
     cases gk with
     | zero=>exact absurd HA.out (by simp [spec_plExponents.l1])
     | succ k2=>
      have H:=HA.out
      clear HA
      simp only [spec_plExponents.l1] at H
      by_cases c17 : x27_2 < (l0_1.length : Int)
      ·rw [if_pos c17] at H
       have c17b0 : decide (x27_2 < (l0_1.length : Int)) = true:=decide_eq_true c17
       clear c17
       by_cases c18 : 0 ≤ x27_2
       ·rw [if_pos c18] at H
        have c18b0 : decide (0 ≤ x27_2) = true:=decide_eq_true c18
        clear c18
        by_cases c19 : x27_2 < (l0_1.length : Int)
        ·rw [if_pos c19] at H
         have c19b0 : decide (x27_2 < (l0_1.length : Int)) = true:=decide_eq_true c19
         clear c19
         by_cases c20 : 0 ≤ ((rd_T73 l0_1 x27_2).f0)
         ·rw [if_pos c20] at H
          have c20b0 : decide (0 ≤ ((rd_T73 l0_1 x27_2).f0)) = true:=decide_eq_true c20
          clear c20
          by_cases c21 : ((rd_T73 l0_1 x27_2).f0) < (x3_2.length : Int)
          ·rw [if_pos c21] at H
           have c21b0 : decide (((rd_T73 l0_1 x27_2).f0) < (x3_2.length : Int)) = true:=decide_eq_true c21
           clear c21
           by_cases c22 : 0 ≤ ((rd_T73 l0_1 x27_2).f1)
           ·rw [if_pos c22] at H
            have c22b0 : decide (0 ≤ ((rd_T73 l0_1 x27_2).f1)) = true:=decide_eq_true c22
            clear c22
            by_cases c23 : ((rd_T73 l0_1 x27_2).f1) < (x3_2.length : Int)
            ·rw [if_pos c23] at H
             have c23b0 : decide (((rd_T73 l0_1 x27_2).f1) < (x3_2.length : Int)) = true:=decide_eq_true c23
             clear c23
             obtain ⟨t171,A24,H⟩:=bd H
             by_cases c25 : x3_2.length < 5864062014805
             ·rw [if_pos c25] at H
              have LMc25:=Aside0.mk c25
              clear c25
              obtain ⟨y174,hy174⟩ : ∃ y_ : List (List Int),y_ = (x3_2 ++ [t171]):=⟨_,rfl⟩
              replace H : (spec_plExponents.l1 k2 y174 l0_1 (l0_1.length : Int) (wrap64 (x27_2 + 1))) = some r:=by first|(rw [hy174];with_reducible exact H)|(have H2_:=(Option.bind_some _ _).symm.trans H;rw [hy174];with_reducible exact H2_)|(have H2_:=(Option.bind_some _ _).symm.trans H;with_reducible exact H2_)|with_reducible exact H|(rw [hy174];exact H)|exact H
              have Ny174:=Aside0.mk hy174
              clear hy174
              have H':=Aside0.mk H
              clear H
              have p167 : 0 ≤ (x27_2 : Int):=of_decide_eq_true az
              have q167 : x27_2 < (l0_1.length : Int):=of_decide_eq_true az
              obtain ⟨ad167,e167,hx167_0,hx167_1⟩:=at_T73 HR0_1.out x27_2 p167 q167
              cases e167
              replace hx167_0:=(HB.out.cell (World.block_lt_of_cell? w _ hx167_0)).trans hx167_0
              replace hx167_1:=(HB.out.cell (World.block_lt_of_cell? w _ hx167_1)).trans hx167_1
              replace p167:=eq_true p167
              replace q167:=eq_true q167
              try go_wp2_with (first|((with_reducible refine gate_dst (N:=7) rfl ?_);refine box_event ?hg (N:=7) ?hd (cs:=#[.int .i64 0,.int .i64 0]) (t:=73) ?hr ?_;(case hd=>rfl);(case hg=>rfl);(case hr=>first|(go_simp;done)|(go_simp;rfl));intro gb168 hg w26 hbox hb;have n0_:=Aside0.mk (Kd.S_below (by (with_reducible repeat (first|apply Kd.S_alloc|apply Kd.S_drewN|apply Kd.S_drew));exact HO_3.out) hb);have n1_:=Aside0.mk (kb BK159.out hb);have n2_:=Aside0.mk (below_step bs hb);have n3_:=Aside0.mk (hbox);have n4_:=Aside0.mk ((by rw [hg];exact (below_size bs) : w.heap.size ≤ gb168));have n5_:=Aside0.mk ((by rw [hg];exact (below_size bs) : w.heap.size ≤ gb168));have n6_:=Aside0.mk (kn hg BK159.out);have n7_:=Aside0.mk (km hg BK159.out);clear HO_3 BK159 HB;have HO_3:=n0_;have BK159:=n1_;have HB:=n2_;have BK168:=n3_;have GW168:=n4_;have GE168:=n5_;have NB159_168:=n6_;have NB168_159:=n7_;clear n0_ n1_ n2_ n3_ n4_ n5_ n6_ n7_;clear hb hbox hg;have hnb27:=NB168_159.out;have hnc27:=NB159_168.out;have hcz28_0 : w26.cell? ⟨gb168,0,none⟩ = some (.int .i64 0):=(blk_cell BK168.out 0).trans rfl;have hcz28_1 : w26.cell? ⟨gb168,1,none⟩ = some (.int .i64 0):=(blk_cell BK168.out 1).trans rfl;have hfz28_0:=blk_frozen BK168.out 0;have hfz28_1:=blk_frozen BK168.out 1))
              have n0_ : Aside0 (Kd.S (Kd.slice 3 (Kd.int .i64)) 23 ((w26.setCell ⟨gb168,0,none⟩ (.int .i64 ((rd_T73 l0_1 x27_2).f0))).setCell ⟨gb168,1,none⟩ (.int .i64 ((rd_T73 l0_1 x27_2).f1))) w.heap.size (fun _=>True) u3 x3_2):=⟨by (with_reducible repeat (first|apply Kd.S_alloc|apply Kd.S_drewN|apply Kd.S_drew));exact Kd.S_mono (Kd.S_far (p:=⟨gb168,1,none⟩) (Kd.S_far (p:=⟨gb168,0,none⟩) (Kd.S_types HO_3.out BK168.out (by decide)) (fun _ hk=>hk.2) (.int .i64 ((rd_T73 l0_1 x27_2).f0))) (fun _ hk=>hk.2) (.int .i64 ((rd_T73 l0_1 x27_2).f1))) (fun _ hk=>trivial)⟩
              have n1_ : Aside0 (((w26.setCell ⟨gb168,0,none⟩ (.int .i64 ((rd_T73 l0_1 x27_2).f0))).setCell ⟨gb168,1,none⟩ (.int .i64 ((rd_T73 l0_1 x27_2).f1))).heap[gb159]? = some (.cells #[.int .i64 a0_0,.slice (some ad167) l0_1.length c0_1,.slice A0_2 l0_2.length c0_2] 29 (0,0))):=⟨by (with_reducible repeat (first|refine blk_drewN ?_ _|refine blk_drew ?_|refine blk_alloc ?_ _));refine blk_far ?_ NB159_168.out _;(with_reducible repeat (first|refine blk_drewN ?_ _|refine blk_drew ?_|refine blk_alloc ?_ _));refine blk_far ?_ NB159_168.out _;(with_reducible repeat (first|refine blk_drewN ?_ _|refine blk_drew ?_|refine blk_alloc ?_ _));exact BK159.out⟩
              have n2_ : Aside0 (((w26.setCell ⟨gb168,0,none⟩ (.int .i64 ((rd_T73 l0_1 x27_2).f0))).setCell ⟨gb168,1,none⟩ (.int .i64 ((rd_T73 l0_1 x27_2).f1))).heap[gb168]? = some (.cells #[.int .i64 ((rd_T73 l0_1 x27_2).f0),.int .i64 ((rd_T73 l0_1 x27_2).f1)] 73 (0,0))):=⟨by (with_reducible repeat (first|refine blk_drewN ?_ _|refine blk_drew ?_|refine blk_alloc ?_ _));refine blk_put (cs:=#[.int .i64 ((rd_T73 l0_1 x27_2).f0),.int .i64 0]) ?_ 1 _ rfl;(with_reducible repeat (first|refine blk_drewN ?_ _|refine blk_drew ?_|refine blk_alloc ?_ _));refine blk_put (cs:=#[.int .i64 0,.int .i64 0]) ?_ 0 _ rfl;(with_reducible repeat (first|refine blk_drewN ?_ _|refine blk_drew ?_|refine blk_alloc ?_ _));exact BK168.out⟩
              have n3_ : Aside0 (Below w.heap.size w ((w26.setCell ⟨gb168,0,none⟩ (.int .i64 ((rd_T73 l0_1 x27_2).f0))).setCell ⟨gb168,1,none⟩ (.int .i64 ((rd_T73 l0_1 x27_2).f1)))):=⟨by repeat (first|(with_reducible first|exact HB.out|apply below_alloc|apply pw_below_drewN|apply below_drew1|refine below_set ?_ GE159.out|refine below_set ?_ GE168.out)|exact HB.out)⟩
              (try clear HO_3)
              (try clear BK159)
              (try clear BK168)
              (try clear HB)
              generalize ((w26.setCell ⟨gb168,0,none⟩ (.int .i64 ((rd_T73 l0_1 x27_2).f0))).setCell ⟨gb168,1,none⟩ (.int .i64 ((rd_T73 l0_1 x27_2).f1))) = w29 at n0_ n1_ n2_ n3_ ⊢
              have HO_3:=n0_
              have BK159:=n1_
              have BK168:=n2_
              have HB:=n3_
              clear n0_ n1_ n2_ n3_
              have n0_:=Aside0.mk (Kd.S_drew HO_3.out)
              have n1_:=Aside0.mk (blk_drew BK159.out)
              have n2_:=Aside0.mk (blk_drew BK168.out)
              have n3_:=Aside0.mk (below_drew1 HB.out)
              clear HO_3
              clear BK159
              clear BK168
              clear HB
              have HO_3:=n0_
              have BK159:=n1_
              have BK168:=n2_
              have HB:=n3_
              clear n0_ n1_ n2_ n3_
              obtain ⟨Ao31,co31,eo31⟩:=Kd.S_slice HO_3.out
              (first|subst eo31|(injection eo31 with f1_ f2_ f3_;have f4_:=f1_.symm;have f5_:=f3_.symm;clear f1_ f2_ f3_;subst f4_;subst f5_))
              have p169 : 0 ≤ (((rd_T73 l0_1 x27_2).f0) : Int):=of_decide_eq_true az
              have q169 : ((rd_T73 l0_1 x27_2).f0) < (x3_2.length : Int):=of_decide_eq_true az
              obtain ⟨ad169,A169_0,c169_0,e169,hx169_0,hl169_0,hi169_0⟩:=at_L3 (Kd.S_reads' HO_3.out).2.2 ((rd_T73 l0_1 x27_2).f0) p169 q169
              cases e169
              obtain ⟨ce169,hce169,hMe169,hcc169⟩:=Kd.S_get HO_3.out [] ((rd_T73 l0_1 x27_2).f0) p169 (by first|exact q169|exact of_decide_eq_true az|(have e_:=(Kd.S_reads' HO_3.out).1;omega))
              obtain ⟨ve169_0,rfl,ge169_0⟩:=hMe169
              have hv169_0:=hcc169 0 _ rfl
              rw [Nat.add_zero,show ((Kd.slice 3 (Kd.int .i64))).sz = 1 from rfl,Nat.mul_one] at hv169_0
              replace hv169_0:=Option.some.inj (hv169_0.symm.trans hx169_0)
              rw [hv169_0] at ge169_0
              have HL169_0:=Aside0.mk (show Kd.R (Kd.int .i64) 3 _ _ _ _ (rd_L3 x3_2 ((rd_T73 l0_1 x27_2).f0)) from ge169_0)
              clear hv169_0 ge169_0
              clear hcc169 hce169
              have HR169_0:=Aside0.mk hi169_0
              have HC169_0:=Aside0.mk hl169_0
              clear hi169_0 hl169_0
              replace p169:=eq_true p169
              replace q169:=eq_true q169
              have p170 : 0 ≤ (((rd_T73 l0_1 x27_2).f1) : Int):=of_decide_eq_true az
              have q170 : ((rd_T73 l0_1 x27_2).f1) < (x3_2.length : Int):=of_decide_eq_true az
              obtain ⟨ad170,A170_0,c170_0,e170,hx170_0,hl170_0,hi170_0⟩:=at_L3 (Kd.S_reads' HO_3.out).2.2 ((rd_T73 l0_1 x27_2).f1) p170 q170
              obtain rfl : ad169 = ad170:=(by injection e170)
              obtain ⟨ce170,hce170,hMe170,hcc170⟩:=Kd.S_get HO_3.out [] ((rd_T73 l0_1 x27_2).f1) p170 (by first|exact q170|exact of_decide_eq_true az|(have e_:=(Kd.S_reads' HO_3.out).1;omega))
              obtain ⟨ve170_0,rfl,ge170_0⟩:=hMe170
              have hv170_0:=hcc170 0 _ rfl
              rw [Nat.add_zero,show ((Kd.slice 3 (Kd.int .i64))).sz = 1 from rfl,Nat.mul_one] at hv170_0
              replace hv170_0:=Option.some.inj (hv170_0.symm.trans hx170_0)
              rw [hv170_0] at ge170_0
              have HL170_0:=Aside0.mk (show Kd.R (Kd.int .i64) 3 _ _ _ _ (rd_L3 x3_2 ((rd_T73 l0_1 x27_2).f1)) from ge170_0)
              clear hv170_0 ge170_0
              clear hcc170 hce170
              have HR170_0:=Aside0.mk hi170_0
              have HC170_0:=Aside0.mk hl170_0
              clear hi170_0 hl170_0
              replace p170:=eq_true p170
              replace q170:=eq_true q170
              refine start_ (n:=15) (S:=fun w'=>w'.cell? ⟨gb168,0,none⟩ = some (.int .i64 ((rd_T73 l0_1 x27_2).f0)) ∧ w'.cell? ⟨gb168,1,none⟩ = some (.int .i64 ((rd_T73 l0_1 x27_2).f1)) ∧ w'.cell? (ad169.add (((rd_T73 l0_1 x27_2).f0)).toNat) = some (.slice A169_0 (rd_L3 x3_2 ((rd_T73 l0_1 x27_2).f0)).length c169_0) ∧ w'.cell? (ad169.add (((rd_T73 l0_1 x27_2).f1)).toNat) = some (.slice A170_0 (rd_L3 x3_2 ((rd_T73 l0_1 x27_2).f1)).length c170_0)) (ds:=[12,13]) #[false,false,false,false,false,false,false,false,false,false,false,false,false,false,false] (by kernel_rfl) rfl rfl ⟨(blk_cell BK168.out 0).trans rfl,(blk_cell BK168.out 1).trans rfl,hx169_0,hx170_0⟩ (fun hHeld=>?_);refine with_tabW spec_plExponents.tab11 spec_plExponents.bits11 (fun HT_ HW_=>?_)
              generalize w29.drew = w30 at HO_3 BK159 BK168 HB HL169_0 HL170_0 HR169_0 HR170_0 hx169_0 hx170_0 hHeld ⊢
              refine pure_ (i:=0) (N:=some 31) (v:=?_) (a':=?_) #[true,false,false,false,false,false,false,false,false,false,false,false,false,false,false] rfl rfl (any_of HT_.out (by kernel_rfl)) (fun _ _ _ h=>h) (Or.inl ⟨by rfl,?_⟩) ?_ ?_
              rotate_left
              ·intro w'
               go_simp
               with_reducible rfl
              rotate_left
              ·simp only [Act.put,xa,xb,xc,i64_w,i32_w]
               rfl
              refine pure_ (i:=1) (N:=some 32) (v:=?_) (a':=?_) #[true,true,false,false,false,false,false,false,false,false,false,false,false,false,false] rfl rfl (any_of HT_.out (by kernel_rfl)) (fun _ _ _ h=>h) (Or.inl ⟨by rfl,?_⟩) ?_ ?_
              rotate_left
              ·intro w'
               go_simp
               with_reducible rfl
              rotate_left
              ·simp only [Act.put,xa,xb,xc,i64_w,i32_w]
               rfl
              refine pure_ (i:=2) (N:=some 33) (v:=?_) (a':=?_) #[true,true,true,false,false,false,false,false,false,false,false,false,false,false,false] rfl rfl (any_of HT_.out (by kernel_rfl)) (fun _ _ _ h=>h) (Or.inl ⟨by rfl,?_⟩) ?_ ?_
              rotate_left
              ·intro w'
               go_simp
               with_reducible rfl
              rotate_left
              ·simp only [Act.put,xa,xb,xc,i64_w,i32_w]
               rfl
              refine pure_ (i:=6) (N:=some 37) (v:=?_) (a':=?_) #[true,true,true,false,false,false,true,false,false,false,false,false,false,false,false] rfl rfl (any_of HT_.out (by kernel_rfl)) (fun _ _ _ h=>h) (Or.inl ⟨by rfl,?_⟩) ?_ ?_
              rotate_left
              ·intro w'
               go_simp
               with_reducible rfl
              rotate_left
              ·simp only [Act.put,xa,xb,xc,i64_w,i32_w]
               rfl
              refine pure_ (i:=7) (N:=some 38) (v:=?_) (a':=?_) #[true,true,true,false,false,false,true,true,false,false,false,false,false,false,false] rfl rfl (any_of HT_.out (by kernel_rfl)) (fun _ _ _ h=>h) (Or.inl ⟨by rfl,?_⟩) ?_ ?_
              rotate_left
              ·intro w'
               go_simp
               with_reducible rfl
              rotate_left
              ·simp only [Act.put,xa,xb,xc,i64_w,i32_w]
               rfl
              refine take_ (i:=3) (N:=some 34) (v:=?_) (a':=?_) #[true,true,true,true,false,false,true,true,false,false,false,false,false,false,false] rfl rfl (take_ofW HT_.out HW_.out (by kernel_rfl)) (fun _ _ _ h=>h) (Or.inl ⟨by rfl,?_⟩) hHeld ?_ ?_
              rotate_left
              ·rintro w' ⟨s0,s1,s2,s3⟩
               go_simp
               with_reducible rfl
              rotate_left
              ·simp only [Act.put,xa,xb,xc,i64_w,i32_w]
               rfl
              refine pure_ (i:=4) (N:=some 35) (v:=?_) (a':=?_) #[true,true,true,true,true,false,true,true,false,false,false,false,false,false,false] rfl rfl (any_of HT_.out (by kernel_rfl)) (fun _ _ _ h=>h) (Or.inl ⟨by rfl,?_⟩) ?_ ?_
              rotate_left
              ·intro w'
               go_simp
               with_reducible rfl
              rotate_left
              ·simp only [Act.put,xa,xb,xc,i64_w,i32_w]
               rfl
              refine take_ (i:=5) (N:=some 36) (v:=?_) (a':=?_) #[true,true,true,true,true,true,true,true,false,false,false,false,false,false,false] rfl rfl (take_ofW HT_.out HW_.out (by kernel_rfl)) (fun _ _ _ h=>h) (Or.inl ⟨by rfl,?_⟩) hHeld ?_ ?_
              rotate_left
              ·rintro w' ⟨s0,s1,s2,s3⟩
               go_simp
               with_reducible rfl
              rotate_left
              ·simp only [Act.put,xa,xb,xc,i64_w,i32_w]
               rfl
              refine take_ (i:=8) (N:=some 39) (v:=?_) (a':=?_) #[true,true,true,true,true,true,true,true,true,false,false,false,false,false,false] rfl rfl (take_ofW HT_.out HW_.out (by kernel_rfl)) (fun _ _ _ h=>h) (Or.inl ⟨by rfl,?_⟩) hHeld ?_ ?_
              rotate_left
              ·rintro w' ⟨s0,s1,s2,s3⟩
               go_simp
               with_reducible rfl
              rotate_left
              ·simp only [Act.put,xa,xb,xc,i64_w,i32_w]
               rfl
              refine pure_ (i:=9) (N:=some 40) (v:=?_) (a':=?_) #[true,true,true,true,true,true,true,true,true,true,false,false,false,false,false] rfl rfl (any_of HT_.out (by kernel_rfl)) (fun _ _ _ h=>h) (Or.inl ⟨by rfl,?_⟩) ?_ ?_
              rotate_left
              ·intro w'
               go_simp
               with_reducible rfl
              rotate_left
              ·simp only [Act.put,xa,xb,xc,i64_w,i32_w]
               rfl
              refine take_ (i:=10) (N:=some 41) (v:=?_) (a':=?_) #[true,true,true,true,true,true,true,true,true,true,true,false,false,false,false] rfl rfl (take_ofW HT_.out HW_.out (by kernel_rfl)) (fun _ _ _ h=>h) (Or.inl ⟨by rfl,?_⟩) hHeld ?_ ?_
              rotate_left
              ·rintro w' ⟨s0,s1,s2,s3⟩
               go_simp
               with_reducible rfl
              rotate_left
              ·simp only [Act.put,xa,xb,xc,i64_w,i32_w]
               rfl
              refine one_ (i:=11) (N:=some 42) #[true,true,true,true,true,true,true,true,true,true,true,true,false,false,false] rfl rfl (one_of HT_.out (by kernel_rfl)) (by decide) (fun K hK=>?_)
              refine goes_ Try.func117 (by kernel_rfl) rfl #[.slice A169_0 (rd_L3 x3_2 ((rd_T73 l0_1 x27_2).f0)).length c169_0,.slice A170_0 (rd_L3 x3_2 ((rd_T73 l0_1 x27_2).f1)).length c170_0] (by rfl) rfl rfl mz ?_
              with_reducible refine (spec_plSum.calls k2 _ _ (rd_L3 x3_2 ((rd_T73 l0_1 x27_2).f0)) _ _ (rd_L3 x3_2 ((rd_T73 l0_1 x27_2).f1)) t171 _ ?side1 ?side2 ?side3 ?side4 A24.out).mono ?_
              (case side1=>repeat (first|exact (by repeat (first|(with_reducible exact HR169_0.out)|(with_reducible refine Kd.C_alloc ?_ _)|(with_reducible refine Kd.C_drewN ?_ _)|(with_reducible refine Kd.C_drew ?_)|exact HR169_0.out))|(with_reducible refine Kd.C_alloc ?_ _)|(with_reducible refine Kd.C_drewN ?_ _)|(with_reducible refine Kd.C_drew ?_)))
              (case side2=>exact HC169_0.out)
              (case side3=>repeat (first|exact (by repeat (first|(with_reducible exact HR170_0.out)|(with_reducible refine Kd.C_alloc ?_ _)|(with_reducible refine Kd.C_drewN ?_ _)|(with_reducible refine Kd.C_drew ?_)|exact HR170_0.out))|(with_reducible refine Kd.C_alloc ?_ _)|(with_reducible refine Kd.C_drewN ?_ _)|(with_reducible refine Kd.C_drew ?_)))
              (case side4=>exact HC170_0.out)
              rintro e w32 ⟨v172,rfl,ho0,hb⟩
              have HS2_:=(hb.cell (World.block_lt_of_cell? _ _ (hHeld.2.2.1))).trans (hHeld.2.2.1)
              have HS3_:=(hb.cell (World.block_lt_of_cell? _ _ (hHeld.2.2.2))).trans (hHeld.2.2.2)
              refine ⟨_,rfl,?_⟩
              have n0_:=Aside0.mk (Kd.S_elder' (by (with_reducible repeat (first|apply Kd.S_alloc|apply Kd.S_drewN|apply Kd.S_drew));exact HO_3.out) (Kd.R_base ho0) hb)
              have n1_:=Aside0.mk (Kd.R_elder' (rz HL169_0.out) (Kd.R_base ho0) hb)
              have n2_:=Aside0.mk (Kd.R_elder' (rz HL170_0.out) (Kd.R_base ho0) hb)
              have n3_:=Aside0.mk (Kd.R_lower (Kd.R_new' (Kd.R_new' ho0 (Kd.R_lt (rz HL169_0.out))) (Kd.R_lt (rz HL170_0.out))) (below_size bs))
              have n4_:=Aside0.mk (kb BK159.out hb)
              have n5_:=Aside0.mk (kb BK168.out hb)
              have n6_:=Aside0.mk (Kd.C_below (by repeat (first|(with_reducible exact HR169_0.out)|(with_reducible refine Kd.C_alloc ?_ _)|(with_reducible refine Kd.C_drewN ?_ _)|(with_reducible refine Kd.C_drew ?_)|exact HR169_0.out)) hb)
              have n7_:=Aside0.mk (Kd.C_below (by repeat (first|(with_reducible exact HR170_0.out)|(with_reducible refine Kd.C_alloc ?_ _)|(with_reducible refine Kd.C_drewN ?_ _)|(with_reducible refine Kd.C_drew ?_)|exact HR170_0.out)) hb)
              have n8_:=Aside0.mk (below_step bs hb)
              clear HO_3
              clear HL169_0
              clear HL170_0
              clear BK159
              clear BK168
              clear HR169_0
              clear HR170_0
              clear HB
              have HO_3:=n0_
              have HL169_0:=n1_
              have HL170_0:=n2_
              have HO173:=n3_
              have BK159:=n4_
              have BK168:=n5_
              have HR169_0:=n6_
              have HR170_0:=n7_
              have HB:=n8_
              clear n0_ n1_ n2_ n3_ n4_ n5_ n6_ n7_ n8_
              (try clear hb)
              (try clear ho0)
              obtain ⟨Ao34,co34,eo34⟩:=Kd.R_slice HO173.out
              (first|subst eo34|(injection eo34 with f1_ f2_ f3_;have f4_:=f1_.symm;have f5_:=f3_.symm;clear f1_ f2_ f3_;subst f4_;subst f5_))
              refine hK.out _ _ ⟨(blk_cell BK168.out 0).trans rfl,(blk_cell BK168.out 1).trans rfl,HS2_,HS3_⟩ (fun hHeld=>?_)
              clear hK K
              refine norm_ (a':=?_) ?_ ?_
              rotate_left
              ·show Act.put _ (some 42) _ = _
               simp only [Act.put,xa,xb,xc,i64_w,i32_w]
               rfl
              refine last_ (i:=12) (N:=some 43) #[true,true,true,true,true,true,true,true,true,true,true,true,true,false,false] rfl rfl (one_of HT_.out (by kernel_rfl)) (by decide) (fun K hK=>?_)
              refine value_ (w1:=?_) (v:=?_) (by rfl) rfl ?_ ?_
              rotate_left 2
              ·go_simp
               constructor
               ·rfl
               ·rfl
              refine hK.out _ _ ?_
              clear hK K
              refine norm_ (a':=?_) ?_ ?_
              rotate_left
              ·show Act.put _ (some 43) _ = _
               simp only [Act.put,xa,xb,xc,i64_w,i32_w]
               rfl
              refine last_ (i:=13) (N:=some 44) #[true,true,true,true,true,true,true,true,true,true,true,true,true,true,false] rfl rfl (one_of HT_.out (by kernel_rfl)) (by decide) (fun K hK=>?_)
              refine Kd.S_append_step (Kd.slice 3 (Kd.int .i64)) (w0:=w) w.heap.size (by rfl) (.tmp 31) (.tmp 43) 50 23 (.slice none 0 0) 24 rfl Try.underlying50 info23 rfl (by decide) (by omega) (.slice (some ad169) x3_2.length co31) x3_2 t171 [.slice Ao34 t171.length co34] (fun _=>True) (fun k_=>some k_ = (.slice Ao34 t171.length co34 : Value).ownBlock) rfl rfl ?aP (fun k_ hk_=>((Kd.R_mono (ok':=fun k_=>((fun _=>True)) k_ ∧ some k_ ≠ (.slice (some ad169) x3_2.length co31 : Value).ownBlock) (Kd.R_apart' (HO173.out) (Kd.S_typed HO_3.out) (by decide)) (fun k_ hk=>⟨trivial,hk.2⟩))).1 k_ hk_.symm) ?aF ?aO ?aB ?aS ?aL ?_
              (case aP=>exact Kd.M_row (Kd.R_mono (Kd.R_tight rfl (Kd.R_mono (ok':=fun k_=>((fun _=>True)) k_ ∧ some k_ ≠ (.slice (some ad169) x3_2.length co31 : Value).ownBlock) (Kd.R_apart' (HO173.out) (Kd.S_typed HO_3.out) (by decide)) (fun k_ hk=>⟨trivial,hk.2⟩))) (fun _ h_=>h_)))
              (case aB=>exact bs)
              (case aF=>exact (fun _ _=>trivial))
              (case aO=>exact (by (with_reducible repeat (first|apply Kd.S_alloc|apply Kd.S_drewN|apply Kd.S_drew));exact Kd.S_mono HO_3.out (fun k_ hk=>⟨trivial,fun e_=>hk.2 e_⟩)))
              (case aS=>exact (below_size bs))
              (case aL=>have:=LMc25.out;omega)
              intro v175 w33 ho hb hg hat
              rw [← Ny174.out] at ho
              have n0_:=Aside0.mk (blk_grown (g:=gb159) (o:=.cells #[.int .i64 a0_0,.slice (some ad167) l0_1.length c0_1,.slice A0_2 l0_2.length c0_2] 29 (0,0)) (kz BK159.out) hg (Kd.S_ne HO_3.out BK159.out (by decide)))
              have n1_:=Aside0.mk (blk_grown (g:=gb168) (o:=.cells #[.int .i64 ((rd_T73 l0_1 x27_2).f0),.int .i64 ((rd_T73 l0_1 x27_2).f1)] 73 (0,0)) (kz BK168.out) hg (Kd.S_ne HO_3.out BK168.out (by decide)))
              have n2_:=Aside0.mk (Kd.R_after (ok:=(fun k_=>some k_ ≠ (.slice Ao34 t171.length co34 : Value).ownBlock)) (by (with_reducible repeat (first|apply Kd.R_alloc|apply Kd.R_drewN|apply Kd.R_drew));exact Kd.R_mono HL169_0.out (fun _ hk=>⟨hk.2,hk.1.2⟩)) hg hat)
              have n3_:=Aside0.mk (Kd.R_after (ok:=(fun k_=>some k_ ≠ (.slice Ao34 t171.length co34 : Value).ownBlock)) (by (with_reducible repeat (first|apply Kd.R_alloc|apply Kd.R_drewN|apply Kd.R_drew));exact Kd.R_mono HL170_0.out (fun _ hk=>⟨hk.2,hk.1.2⟩)) hg hat)
              have n4_:=Aside0.mk (hb)
              have n5_:=Aside0.mk (ho)
              clear BK159
              clear BK168
              clear HL169_0
              clear HL170_0
              clear HB
              clear HO_3
              clear HO173
              have BK159:=n0_
              have BK168:=n1_
              have HL169_0:=n2_
              have HL170_0:=n3_
              have HB:=n4_
              have HO176:=n5_
              clear n0_ n1_ n2_ n3_ n4_ n5_
              clear ho hb hg hat
              refine hK.out _ _ ?_
              clear hK K
              refine norm_ (a':=?_) ?_ ?_
              rotate_left
              ·show Act.put _ (some 44) _ = _
               simp only [Act.put,xa,xb,xc,i64_w,i32_w]
               rfl
              refine pure_ (i:=14) (N:=some 3) (v:=?_) (a':=?_) #[true,true,true,true,true,true,true,true,true,true,true,true,true,true,true] rfl rfl (any_of HT_.out (by kernel_rfl)) (fun _ _ _ h=>h) (Or.inl ⟨by rfl,?_⟩) ?_ ?_
              rotate_left
              ·intro w'
               go_simp
               with_reducible rfl
              rotate_left
              ·simp only [Act.put,xa,xb,xc,i64_w,i32_w]
               rfl
              refine done_ (done_of HT_.out (by kernel_rfl)) ?_
              try go_wp2
              go_roundg k2
              case measure=>have:=HK1.out;have:=HK2.out;omega
              case rel=>exact ⟨(y174),(wrap64 (x27_2 + 1)),fz,H',⟨by have:=HK1.out;have:=HK2.out;omega⟩,⟨by (with_reducible repeat (first|apply Kd.S_alloc|apply Kd.S_drewN|apply Kd.S_drew));exact HO176.out⟩,⟨by (with_reducible repeat (first|refine blk_drewN ?_ _|refine blk_drew ?_|refine blk_alloc ?_ _));exact BK159.out⟩,⟨by repeat (first|(with_reducible first|exact HB.out|apply below_alloc|apply pw_below_drewN|apply below_drew1|refine below_set ?_ GE159.out|refine below_set ?_ GE168.out)|exact HB.out)⟩⟩
             ·rw [if_neg c25] at H
              exact absurd H (by simp)
            ·rw [if_neg c23] at H
             exact absurd H (by simp)
           ·rw [if_neg c22] at H
            exact absurd H (by simp)
          ·rw [if_neg c21] at H
           exact absurd H (by simp)
         ·rw [if_neg c20] at H
          exact absurd H (by simp)
        ·rw [if_neg c19] at H
         exact absurd H (by simp)
       ·rw [if_neg c18] at H
        exact absurd H (by simp)
      ·rw [if_neg c17] at H
       have c17b0 : decide (x27_2 < (l0_1.length : Int)) = false:=decide_eq_false c17
       clear c17
       obtain rfl:=Option.some.inj H
       go_wp2
       go_ret
       exact ⟨_,by first|rfl|(simp [errW_none,errW_some] <;> rfl)|(simp [*,errW_none,errW_some] <;> rfl),by (with_reducible repeat (first|apply Kd.S_alloc|apply Kd.S_drewN|apply Kd.S_drew));exact HO_3.out,by repeat (first|(with_reducible first|exact HB.out|apply below_alloc|apply pw_below_drewN|apply below_drew1|refine below_set ?_ GE159.out)|exact HB.out)⟩
/-! ### spec_l1All: function 84 -/
def spec_l1All.l0 : Nat → Int → Int → List Int → Int → Int → Option (Bool)
 | 0,_,_,_,_,_=>none
 | k + 1,x1,x2,x9,x10,x11=>if x11 < x10 then (if 0 ≤ x11 then (if x11 < (x9.length : Int) then ((spec_l1In.f (rd x9 x11) x1 x2).bind fun t178=>(if t178 = true then (spec_l1All.l0 k x1 x2 x9 x10 (wrap64 (x11 + 1))) else (some false))) else (none)) else (none)) else (some true)
def spec_l1All.f (k : Nat) (l0 : List Int) (a1 : Int) (a2 : Int) : Option (Bool):=spec_l1All.l0 k a1 a2 l0 (l0.length : Int) 0
theorem spec_l1All.mono_l : ∀ k,(∀ y0 y1 y2 y3 y4,LeO (spec_l1All.l0 k y0 y1 y2 y3 y4) (spec_l1All.l0 (k + 1) y0 y1 y2 y3 y4))
 | 0=>fun _ _ _ _ _ r h=>by simp [spec_l1All.l0] at h
 | k + 1=>by
  have ih0:=spec_l1All.mono_l k
  ·intro y0 y1 y2 y3 y4
   unfold spec_l1All.l0
   repeat' first
   | (with_reducible exact ih0 _ _ _ _ _)
   | (with_reducible exact LeO.refl _)
   | (with_reducible exact LeO.none _)
   | (with_reducible refine LeO.ite ?_ ?_)
   | (with_reducible refine LeO.bind ?_ (fun _=>?_))
   | exact ih0 _ _ _ _ _
   | exact LeO.none _
   | refine LeO.ite ?_ ?_
   | refine LeO.bind ?_ (fun _=>?_)
theorem spec_l1All.mono : ∀ a0 a1 a2 k,LeO (spec_l1All.f k a0 a1 a2) (spec_l1All.f (k + 1) a0 a1 a2):=by
 intro a0 a1 a2 k
 have ih0:=spec_l1All.mono_l k
 unfold spec_l1All.f
 repeat' first
   | (with_reducible exact ih0 _ _ _ _ _)
   | (with_reducible exact LeO.refl _)
   | (with_reducible exact LeO.none _)
   | (with_reducible refine LeO.ite ?_ ?_)
   | (with_reducible refine LeO.bind ?_ (fun _=>?_))
   | exact ih0 _ _ _ _ _
   | exact LeO.none _
   | refine LeO.ite ?_ ?_
   | refine LeO.bind ?_ (fun _=>?_)
set_option maxHeartbeats 8000000 in
set_option maxRecDepth 100000 in
theorem spec_l1All.calls (k : Nat) (A0 : Option Addr) (c0 : Nat) (l0 : List Int) (a1 : Int) (a2 : Int) (r : Bool) (w : World) (hr0 : Kd.C (Kd.int .i64) w A0 l0.length l0) (hc0 : l0.length ≤ c0) (h : spec_l1All.f k l0 a1 a2 = some r) :
  Calls Try.prog 84 #[.slice A0 l0.length c0,.int .i64 a1,.int .i64 a2] w fun e w'=>e = .returned (.bool r) ∧ Drawn0 w w':=by
 have HR0:=Aside0.mk hr0
 have HC0:=Aside0.mk hc0
 clear hr0 hc0
 have H : (spec_l1All.l0 k a1 a2 l0 (l0.length : Int) 0) = some r:=h
 clear h
 have H':=Aside0.mk H
 clear H
 go_enter Try.func84,Try.ntmps84
 go_wp2
 go_loopg [11] k (fun kq v11 w'=>∃ (x11_1 : Int),v11 = .int .i64 x11_1 ∧ Aside0 (spec_l1All.l0 kq a1 a2 l0 (l0.length : Int) x11_1 = some r) ∧ Aside0 (kq ≤ k) ∧ Drawn0 w w')
 case atStart=>exact ⟨(0),fz,H',⟨Nat.le_refl _⟩,by repeat (first|exact Drawn0.refl _|apply Drawn0.step)⟩
 case round=>
  clear H'
  try clear p2
  obtain ⟨x11_1,rfl,HA,HK1,⟨m1,rfl⟩⟩:=hrel
  cases gk with
  | zero=>exact absurd HA.out (by simp [spec_l1All.l0])
  | succ k1=>
   have H:=HA.out
   clear HA
   simp only [spec_l1All.l0] at H
   by_cases c4 : x11_1 < (l0.length : Int)
   ·rw [if_pos c4] at H
    have c4b0 : decide (x11_1 < (l0.length : Int)) = true:=decide_eq_true c4
    clear c4
    by_cases c5 : 0 ≤ x11_1
    ·rw [if_pos c5] at H
     have c5b0 : decide (0 ≤ x11_1) = true:=decide_eq_true c5
     clear c5
     by_cases c6 : x11_1 < (l0.length : Int)
     ·rw [if_pos c6] at H
      have c6b0 : decide (x11_1 < (l0.length : Int)) = true:=decide_eq_true c6
      clear c6
      obtain ⟨t178,A7,H⟩:=bd H
      by_cases c8 : t178 = true
      ·subst c8
       rw [if_pos rfl] at H
       have H':=Aside0.mk H
       clear H
       have p177 : 0 ≤ (x11_1 : Int):=of_decide_eq_true az
       have q177 : x11_1 < (l0.length : Int):=of_decide_eq_true az
       obtain ⟨ad177,e177,hx177_0⟩:=Kd.at_int HR0.out x11_1 p177 q177
       cases e177
       replace p177:=eq_true p177
       replace q177:=eq_true q177
       go_wp2_with (first|((with_reducible refine gate_callee (f:=82) rfl ?_);refine goesL_ (some 18) rfl rfl Try.func82 (by kernel_rfl) rfl #[.int .i64 (rd l0 x11_1),.int .i64 a1,.int .i64 a2] rfl mz ?_;(with_reducible refine (spec_l1In.calls (rd l0 x11_1) a1 a2 true _ A7.out).mono ?_);rintro e w' ⟨rfl,⟨nd,rfl⟩⟩;refine ⟨_,rfl,?_⟩))
       go_roundg k1
       case measure=>have:=HK1.out;omega
       case rel=>exact ⟨(wrap64 (x11_1 + 1)),fz,H',⟨by have:=HK1.out;omega⟩,by repeat (first|exact Drawn0.refl _|apply Drawn0.step)⟩
      ·replace c8:=Bool.eq_false_iff.mpr c8
       subst c8
       rw [if_neg (show ¬ (false = true) by decide)] at H
       obtain rfl:=Option.some.inj H
       have p177 : 0 ≤ (x11_1 : Int):=of_decide_eq_true az
       have q177 : x11_1 < (l0.length : Int):=of_decide_eq_true az
       obtain ⟨ad177,e177,hx177_0⟩:=Kd.at_int HR0.out x11_1 p177 q177
       cases e177
       replace p177:=eq_true p177
       replace q177:=eq_true q177
       go_wp2_with (first|((with_reducible refine gate_callee (f:=82) rfl ?_);refine goesL_ (some 18) rfl rfl Try.func82 (by kernel_rfl) rfl #[.int .i64 (rd l0 x11_1),.int .i64 a1,.int .i64 a2] rfl mz ?_;(with_reducible refine (spec_l1In.calls (rd l0 x11_1) a1 a2 false _ A7.out).mono ?_);rintro e w' ⟨rfl,⟨nd,rfl⟩⟩;refine ⟨_,rfl,?_⟩))
       go_ret
       exact ⟨by first|rfl|(simp;done)|(simp [*];done),by repeat (first|exact Drawn0.refl _|apply Drawn0.step)⟩
     ·rw [if_neg c6] at H
      exact absurd H (by simp)
    ·rw [if_neg c5] at H
     exact absurd H (by simp)
   ·rw [if_neg c4] at H
    have c4b0 : decide (x11_1 < (l0.length : Int)) = false:=decide_eq_false c4
    clear c4
    obtain rfl:=Option.some.inj H
    go_wp2
    go_ret
    exact ⟨by first|rfl|(simp;done)|(simp [*];done),by repeat (first|exact Drawn0.refl _|apply Drawn0.step)⟩
end Go.Proofs.Ytdcdaoancmpbeaa.MFnExactReorderSteps
--sq
