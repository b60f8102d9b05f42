import Derived.Test.YtdcdaoancmpbeaaMFnExactReorderStepsx0
import Derived.Test.YtdcdaoancmpbeaaMFnExactReorderStepsx10
import Derived.Test.YtdcdaoancmpbeaaMFnExactReorderStepsx11
namespace Go.Proofs.Ytdcdaoancmpbeaa.MFnExactReorderSteps
open Go.RowKit Go.Proofs.YtdcdaoancmpbeaaW.PrintWords Go.Proofs.YtdcdaoancmpbeaaW.PrintLast Go.Proofs.YtdcdaoancmpbeaaW.PrintMore Go.Proofs.YtdcdaoancmpbeaaV Go.Proofs.YtdcdaoancmpbeaaZ
attribute [local go_sem] max2_int min2_int max_two min_two max_three min_three max_four min_four   -- for this text's walks alone
set_option linter.unusedVariables false
set_option linter.unusedSimpArgs false
/-! ### impl_ReorderSteps: function 27 -/
mutual
def impl_ReorderSteps.j0 : Nat → List Int → Bool → Int → List (S73) → List Int → Option (Int × (List (S73)) × List Int × Bool)
 | 0,_,_,_,_,_=>none
 | k + 1,x1,x22,x287000,x287001,x287002=>if x22 = true then (some (0,([] : List (S73)),([] : List Int),false)) else ((impl_firsts.f k x287000).bind fun t290=>(if 0 ≤ (x287001.length : Int) then (if t290.length + ((x287001.length : Int) : Int).toNat < 17592186044416 then (impl_ReorderSteps.l0 k x1 (t290 ++ List.replicate ((x287001.length : Int) : Int).toNat 0) x1 (x1.length : Int) 0 x287000 x287001 x287002) else (none)) else (none)))
def impl_ReorderSteps.l0 : Nat → List Int → List Int → List Int → Int → Int → Int → List (S73) → List Int → Option (Int × (List (S73)) × List Int × Bool)
 | 0,_,_,_,_,_,_,_,_=>none
 | k + 1,x1,x6,x31,x32,x33,x287000,x287001,x287002=>if x33 < x32 then (if 0 ≤ x33 then (if x33 < (x31.length : Int) then (if 0 ≤ (wrap64 (x287000 + (rd x31 x33))) then (if (wrap64 (x287000 + (rd x31 x33))) < (x6.length : Int) then (impl_ReorderSteps.l0 k x1 (x6.set ((wrap64 (x287000 + (rd x31 x33))) : Int).toNat (wrap64 (x287000 + x33))) x31 x32 (wrap64 (x33 + 1)) x287000 x287001 x287002) else (none)) else (none)) else (none)) else (none)) else ((impl_renamed.f k x287002 x6).bind fun t298=>(impl_ReorderSteps.l1 k x6 x1 (x1.length : Int) 0 x287000 x287001 x287002 x287000 ([] : List (S73)) t298))
def impl_ReorderSteps.l1 : Nat → List Int → List Int → Int → Int → Int → List (S73) → List Int → Int → List (S73) → List Int → Option (Int × (List (S73)) × List Int × Bool)
 | 0,_,_,_,_,_,_,_,_,_,_=>none
 | k + 1,x6,x56,x57,x58,x287000,x287001,x287002,x302000,x302001,x302002=>if x58 < x57 then (if 0 ≤ x58 then (if x58 < (x56.length : Int) then (if 0 ≤ (rd x56 x58) then (if (rd x56 x58) < (x287001.length : Int) then (if 0 ≤ ((rd_T73 x287001 (rd x56 x58)).f0) then (if ((rd_T73 x287001 (rd x56 x58)).f0) < (x6.length : Int) then (if 0 ≤ ((rd_T73 x287001 (rd x56 x58)).f1) then (if ((rd_T73 x287001 (rd x56 x58)).f1) < (x6.length : Int) then ((impl_step.f (rd x6 ((rd_T73 x287001 (rd x56 x58)).f0)) (rd x6 ((rd_T73 x287001 (rd x56 x58)).f1))).bind fun bt307=>(if x302001.length < 8796093022208 then (impl_ReorderSteps.l1 k x6 x56 x57 (wrap64 (x58 + 1)) x287000 x287001 x287002 x302000 (x302001 ++ [(⟨bt307.1,bt307.2⟩ : S73)]) x302002) else (none))) else (none)) else (none)) else (none)) else (none)) else (none)) else (none)) else (none)) else (none)) else ((impl_told.f k x302000 x302001 x302002).bind fun bt312=>(some (bt312.1,bt312.2.1,bt312.2.2.1,bt312.2.2.2)))
end
def impl_ReorderSteps.f (k : Nat) (a0_0 : Int) (l0_1 : List (S73)) (l0_2 : List Int) (l1 : List Int) : Option (Int × (List (S73)) × List Int × Bool):=(impl_IsPlan.f k a0_0 l0_1 l0_2).bind fun t288=>(if t288 = true then ((impl_isOrder.f k l1 (l0_1.length : Int)).bind fun t289=>(impl_ReorderSteps.j0 k l1 (!t289) a0_0 l0_1 l0_2)) else (impl_ReorderSteps.j0 k l1 true a0_0 l0_1 l0_2))
theorem impl_ReorderSteps.mono_l : ∀ k,(∀ y0 y1 y2 y3 y4,LeO (impl_ReorderSteps.j0 k y0 y1 y2 y3 y4) (impl_ReorderSteps.j0 (k + 1) y0 y1 y2 y3 y4)) ∧ (∀ y0 y1 y2 y3 y4 y5 y6 y7,LeO (impl_ReorderSteps.l0 k y0 y1 y2 y3 y4 y5 y6 y7) (impl_ReorderSteps.l0 (k + 1) y0 y1 y2 y3 y4 y5 y6 y7)) ∧ (∀ y0 y1 y2 y3 y4 y5 y6 y7 y8 y9,LeO (impl_ReorderSteps.l1 k y0 y1 y2 y3 y4 y5 y6 y7 y8 y9) (impl_ReorderSteps.l1 (k + 1) y0 y1 y2 y3 y4 y5 y6 y7 y8 y9))
 | 0=>⟨fun _ _ _ _ _ r h=>by simp [impl_ReorderSteps.j0] at h,fun _ _ _ _ _ _ _ _ r h=>by simp [impl_ReorderSteps.l0] at h,fun _ _ _ _ _ _ _ _ _ _ r h=>by simp [impl_ReorderSteps.l1] at h⟩
 | k + 1=>by
  obtain ⟨ih0,ih1,ih2⟩:=impl_ReorderSteps.mono_l k
  refine ⟨?_,?_,?_⟩
  ·intro y0 y1 y2 y3 y4
   unfold impl_ReorderSteps.j0
   repeat' first
   | (with_reducible exact ih0 _ _ _ _ _)
   | (with_reducible exact ih1 _ _ _ _ _ _ _ _)
   | (with_reducible exact ih2 _ _ _ _ _ _ _ _ _ _)
   | (with_reducible exact impl_IsPlan.mono _ _ _ _)
   | (with_reducible exact impl_firsts.mono _ _)
   | (with_reducible exact impl_isOrder.mono _ _ _)
   | (with_reducible exact impl_renamed.mono _ _ _)
   | (with_reducible exact impl_told.mono _ _ _ _)
   | (with_reducible exact LeO.refl _)
   | (with_reducible exact LeO.none _)
   | (with_reducible refine LeO.ite ?_ ?_)
   | (with_reducible refine LeO.bind ?_ (fun _=>?_))
   | exact ih0 _ _ _ _ _
   | exact ih1 _ _ _ _ _ _ _ _
   | exact ih2 _ _ _ _ _ _ _ _ _ _
   | exact impl_IsPlan.mono _ _ _ _
   | exact impl_firsts.mono _ _
   | exact impl_isOrder.mono _ _ _
   | exact impl_renamed.mono _ _ _
   | exact impl_told.mono _ _ _ _
   | exact LeO.none _
   | refine LeO.ite ?_ ?_
   | refine LeO.bind ?_ (fun _=>?_)
  ·intro y0 y1 y2 y3 y4 y5 y6 y7
   unfold impl_ReorderSteps.l0
   repeat' first
   | (with_reducible exact ih0 _ _ _ _ _)
   | (with_reducible exact ih1 _ _ _ _ _ _ _ _)
   | (with_reducible exact ih2 _ _ _ _ _ _ _ _ _ _)
   | (with_reducible exact impl_IsPlan.mono _ _ _ _)
   | (with_reducible exact impl_firsts.mono _ _)
   | (with_reducible exact impl_isOrder.mono _ _ _)
   | (with_reducible exact impl_renamed.mono _ _ _)
   | (with_reducible exact impl_told.mono _ _ _ _)
   | (with_reducible exact LeO.refl _)
   | (with_reducible exact LeO.none _)
   | (with_reducible refine LeO.ite ?_ ?_)
   | (with_reducible refine LeO.bind ?_ (fun _=>?_))
   | exact ih0 _ _ _ _ _
   | exact ih1 _ _ _ _ _ _ _ _
   | exact ih2 _ _ _ _ _ _ _ _ _ _
   | exact impl_IsPlan.mono _ _ _ _
   | exact impl_firsts.mono _ _
   | exact impl_isOrder.mono _ _ _
   | exact impl_renamed.mono _ _ _
   | exact impl_told.mono _ _ _ _
   | exact LeO.none _
   | refine LeO.ite ?_ ?_
   | refine LeO.bind ?_ (fun _=>?_)
  ·intro y0 y1 y2 y3 y4 y5 y6 y7 y8 y9
   unfold impl_ReorderSteps.l1
   repeat' first
   | (with_reducible exact ih0 _ _ _ _ _)
   | (with_reducible exact ih1 _ _ _ _ _ _ _ _)
   | (with_reducible exact ih2 _ _ _ _ _ _ _ _ _ _)
   | (with_reducible exact impl_IsPlan.mono _ _ _ _)
   | (with_reducible exact impl_firsts.mono _ _)
   | (with_reducible exact impl_isOrder.mono _ _ _)
   | (with_reducible exact impl_renamed.mono _ _ _)
   | (with_reducible exact impl_told.mono _ _ _ _)
   | (with_reducible exact LeO.refl _)
   | (with_reducible exact LeO.none _)
   | (with_reducible refine LeO.ite ?_ ?_)
   | (with_reducible refine LeO.bind ?_ (fun _=>?_))
   | exact ih0 _ _ _ _ _
   | exact ih1 _ _ _ _ _ _ _ _
   | exact ih2 _ _ _ _ _ _ _ _ _ _
   | exact impl_IsPlan.mono _ _ _ _
   | exact impl_firsts.mono _ _
   | exact impl_isOrder.mono _ _ _
   | exact impl_renamed.mono _ _ _
   | exact impl_told.mono _ _ _ _
   | exact LeO.none _
   | refine LeO.ite ?_ ?_
   | refine LeO.bind ?_ (fun _=>?_)
theorem impl_ReorderSteps.mono : ∀ a0 a1 a2 a3 k,LeO (impl_ReorderSteps.f k a0 a1 a2 a3) (impl_ReorderSteps.f (k + 1) a0 a1 a2 a3):=by
 intro a0 a1 a2 a3 k
 obtain ⟨ih0,ih1,ih2⟩:=impl_ReorderSteps.mono_l k
 unfold impl_ReorderSteps.f
 repeat' first
   | (with_reducible exact ih0 _ _ _ _ _)
   | (with_reducible exact ih1 _ _ _ _ _ _ _ _)
   | (with_reducible exact ih2 _ _ _ _ _ _ _ _ _ _)
   | (with_reducible exact impl_IsPlan.mono _ _ _ _)
   | (with_reducible exact impl_firsts.mono _ _)
   | (with_reducible exact impl_isOrder.mono _ _ _)
   | (with_reducible exact impl_renamed.mono _ _ _)
   | (with_reducible exact impl_told.mono _ _ _ _)
   | (with_reducible exact LeO.refl _)
   | (with_reducible exact LeO.none _)
   | (with_reducible refine LeO.ite ?_ ?_)
   | (with_reducible refine LeO.bind ?_ (fun _=>?_))
   | exact ih0 _ _ _ _ _
   | exact ih1 _ _ _ _ _ _ _ _
   | exact ih2 _ _ _ _ _ _ _ _ _ _
   | exact impl_IsPlan.mono _ _ _ _
   | exact impl_firsts.mono _ _
   | exact impl_isOrder.mono _ _ _
   | exact impl_renamed.mono _ _ _
   | exact impl_told.mono _ _ _ _
   | exact LeO.none _
   | refine LeO.ite ?_ ?_
   | refine LeO.bind ?_ (fun _=>?_)
def impl_ReorderSteps.T3 : Bool × List (List Nat × List Nat):=(true,[([],[]),([0],[0]),([1],[1]),([],[]),([3],[3]),([4],[4]),([2,5,2],[2,5]),([6,6,0,1,2,3,4,5,6],[6])])
def impl_ReorderSteps.B3 : List Nat:=[0,1,3,0,8,24,63,127]
theorem impl_ReorderSteps.tab3 : rtab .any (opsOf Try.f27 3) = impl_ReorderSteps.T3:=by kernel_rfl
theorem impl_ReorderSteps.bits3 : waitsOk impl_ReorderSteps.T3.2 impl_ReorderSteps.B3 = true:=by kernel_rfl
def impl_ReorderSteps.T9 : Bool × List (List Nat × List Nat):=(true,[([],[]),([0],[0]),([],[]),([2],[2]),([],[]),([3,4],[3,4]),([1,5],[1,5]),([],[]),([7,6,5,0,1,2,3,4,5,6,7],[6,7])])
def impl_ReorderSteps.B9 : List Nat:=[0,1,0,4,0,28,63,0,255]
theorem impl_ReorderSteps.tab9 : rtab .any (opsOf Try.f27 9) = impl_ReorderSteps.T9:=by kernel_rfl
theorem impl_ReorderSteps.bits9 : waitsOk impl_ReorderSteps.T9.2 impl_ReorderSteps.B9 = true:=by kernel_rfl
def impl_ReorderSteps.T13 : Bool × List (List Nat × List Nat):=(true,[([],[]),([0],[0]),([],[]),([],[]),([3],[3]),([],[]),([4,5],[4,5]),([6],[6]),([7],[7]),([2,8],[2,8]),([9],[9]),([],[]),([],[]),([12],[12]),([],[]),([13,14],[13,14]),([15],[15]),([16],[16]),([11,17],[11,17]),([18],[18]),([10,19],[10,19]),([20],[20]),([1,21,20],[1,21]),([0,1,2,3,4,5,6,7,8,9,10,11,12,13,14,15,16,17,18,19,20,21,22],[]),([23,22,22,0,1,2,3,4,5,6,7,8,9,10,11,12,13,14,15,16,17,18,19,20,21,22],[22,23])])
def impl_ReorderSteps.B13 : List Nat:=[0,1,0,0,8,0,56,120,248,508,1020,0,0,4096,0,28672,61440,126976,260096,522240,1048572,2097148,4194303,8388607,16777215]
theorem impl_ReorderSteps.tab13 : rtab .any (opsOf Try.f27 13) = impl_ReorderSteps.T13:=by kernel_rfl
theorem impl_ReorderSteps.bits13 : waitsOk impl_ReorderSteps.T13.2 impl_ReorderSteps.B13 = true:=by kernel_rfl
set_option maxHeartbeats 8000000 in
set_option maxRecDepth 100000 in
theorem impl_ReorderSteps.calls (k : Nat) (a0_0 : Int) (A0_1 : Option Addr) (c0_1 : Nat) (l0_1 : List (S73)) (A0_2 : Option Addr) (c0_2 : Nat) (l0_2 : List Int) (A1 : Option Addr) (c1 : Nat) (l1 : List Int) (r1 : Int) (r2 : List (S73)) (r3 : List Int) (r4 : Bool) (w : World) (hr0_1 : Kd.C k73 w A0_1 l0_1.length l0_1) (hc0_1 : l0_1.length ≤ c0_1) (hr0_2 : Kd.C (Kd.int .i64) w A0_2 l0_2.length l0_2) (hc0_2 : l0_2.length ≤ c0_2) (hr1 : Kd.C (Kd.int .i64) w A1 l1.length l1) (hc1 : l1.length ≤ c1) (h : impl_ReorderSteps.f k a0_0 l0_1 l0_2 l1 = some (r1,r2,r3,r4)) :
  Calls Try.prog 27 #[.agg #[.int .i64 a0_0,.slice A0_1 l0_1.length c0_1,.slice A0_2 l0_2.length c0_2],.slice A1 l1.length c1] w fun e w'=>∃ v1_ v2_ : Value,e = .returned (.tuple #[.agg #[.int .i64 r1,v1_,v2_],.bool r4]) ∧ Kd.R k73 73 w' w.heap.size (fun _=>True) v1_ r2 ∧ Kd.R (Kd.int .i64) 3 w' w.heap.size (fun _=>True) v2_ r3 ∧ Below w.heap.size w w':=by
 have hu29:=Try.underlying29
 have HR0_1:=Aside0.mk hr0_1
 have HC0_1:=Aside0.mk hc0_1
 clear hr0_1 hc0_1
 have HR0_2:=Aside0.mk hr0_2
 have HC0_2:=Aside0.mk hc0_2
 clear hr0_2 hc0_2
 have HR1:=Aside0.mk hr1
 have HC1:=Aside0.mk hc1
 clear hr1 hc1
 have HB:=Aside0.mk (Below.refl w.heap.size w)
 have H : ((impl_IsPlan.f k a0_0 l0_1 l0_2).bind fun t288=>(if t288 = true then ((impl_isOrder.f k l1 (l0_1.length : Int)).bind fun t289=>(impl_ReorderSteps.j0 k l1 (!t289) a0_0 l0_1 l0_2)) else (impl_ReorderSteps.j0 k l1 true a0_0 l0_1 l0_2))) = some (r1,r2,r3,r4):=h
 clear h
 have HC3:=Aside0.mk H
 clear H
 go_enter Try.func27,Try.ntmps27
 go_upto_region 1 with (first|((with_reducible refine gate_dst (N:=2) rfl ?_);(try (refine gate_guard (by rfl) ?_;dsimp only));refine box_event ?hg (N:=2) ?hd (cs:=#[.int .i64 a0_0,.slice A0_1 l0_1.length c0_1,.slice A0_2 l0_2.length c0_2]) (t:=29) ?hr ?_;(case hd=>rfl);(case hg=>rfl);(case hr=>first|(go_simp;done)|(go_simp;rfl));intro gb286 hg w4 hbox hb;have n0_:=Aside0.mk (below_step bz hb);have n1_:=Aside0.mk (hbox);have n2_:=Aside0.mk ((by rw [hg];exact (below_size bz) : w.heap.size ≤ gb286));have n3_:=Aside0.mk ((by rw [hg];exact (below_size bz) : w.heap.size ≤ gb286));clear HB;have HB:=n0_;have BK286:=n1_;have GW286:=n2_;have GE286:=n3_;clear n0_ n1_ n2_ n3_;clear hb hbox hg)|((with_reducible refine gate_dst (N:=4) rfl ?_);(try (refine gate_guard (by rfl) ?_;dsimp only));refine box_event ?hg (N:=4) ?hd (cs:=#[.int .i64 0,.slice none 0 0,.slice none 0 0]) (t:=29) ?hr ?_;(case hd=>rfl);(case hg=>rfl);(case hr=>first|(go_simp;done)|(go_simp;rfl));intro gb287 hg w5 hbox hb;have n0_:=Aside0.mk (kb BK286.out hb);have n1_:=Aside0.mk (below_step bs hb);have n2_:=Aside0.mk (hbox);have n3_:=Aside0.mk ((by rw [hg];exact (below_size bs) : w.heap.size ≤ gb287));have n4_:=Aside0.mk ((by rw [hg];exact (below_size bs) : w.heap.size ≤ gb287));have n5_:=Aside0.mk (kn hg BK286.out);have n6_:=Aside0.mk (km hg BK286.out);clear BK286 HB;have BK286:=n0_;have HB:=n1_;have BK287:=n2_;have GW287:=n3_;have GE287:=n4_;have NB286_287:=n5_;have NB287_286:=n6_;clear n0_ n1_ n2_ n3_ n4_ n5_ n6_;clear hb hbox hg))
 (try simp only [Act.put,xa,xb,xc])
 go_cut [22] (fun v22 wc=>∃ (kq : Nat) (x22_2 : Bool),v22 = .bool x22_2 ∧ Aside0 (impl_ReorderSteps.j0 kq l1 x22_2 a0_0 l0_1 l0_2 = some (r1,r2,r3,r4)) ∧ Aside0 (kq ≤ k) ∧ Aside0 (wc.heap[gb286]? = some (.cells #[.int .i64 a0_0,(.slice A0_1 l0_1.length c0_1),(.slice A0_2 l0_2.length c0_2)] 29 (0,0))) ∧ Aside0 (wc.heap[gb287]? = some (.cells #[.int .i64 0,(.slice none 0 0),(.slice none 0 0)] 29 (0,0))) ∧ Aside0 (Below w.heap.size w wc))
 case first=>
  have H:=HC3.out
  clear HC3
  obtain ⟨t288,A6,H⟩:=bd H
  by_cases c7 : t288 = true
  ·subst c7
   rw [if_pos rfl] at H
   obtain ⟨t289,A8,H⟩:=bd H
   have H':=Aside0.mk H
   clear H
   have hnb9:=NB286_287.out
   have hnc9:=NB287_286.out
   have hcz10_0 : w5.cell? ⟨gb286,0,none⟩ = some (.int .i64 a0_0):=(blk_cell BK286.out 0).trans rfl
   have hcz10_1 : w5.cell? ⟨gb286,1,none⟩ = some (.slice A0_1 l0_1.length c0_1):=(blk_cell BK286.out 1).trans rfl
   have hcz10_2 : w5.cell? ⟨gb286,2,none⟩ = some (.slice A0_2 l0_2.length c0_2):=(blk_cell BK286.out 2).trans rfl
   have hfz10_0:=blk_frozen BK286.out 0
   have hfz10_1:=blk_frozen BK286.out 1
   have hfz10_2:=blk_frozen BK286.out 2
   go_wp2_with (first|((with_reducible refine gate_callee (f:=44) rfl ?_);refine goesL_ (some 13) rfl rfl Try.func44 (by kernel_rfl) rfl #[.agg #[.int .i64 a0_0,.slice A0_1 l0_1.length c0_1,.slice A0_2 l0_2.length c0_2]] rfl mz ?_;(with_reducible refine (impl_IsPlan.calls k a0_0 _ _ l0_1 _ _ l0_2 true _ ?side1 ?side2 ?side3 ?side4 A6.out).mono ?_);(case side1=>exact cz (Kd.C_below HR0_1.out HB.out));(case side2=>exact HC0_1.out);(case side3=>exact cz (Kd.C_below HR0_2.out HB.out));(case side4=>exact HC0_2.out);rintro e w11 ⟨rfl,hb⟩;refine ⟨_,rfl,?_⟩;have n0_:=Aside0.mk (kb BK286.out hb);have n1_:=Aside0.mk (kb BK287.out hb);have n2_:=Aside0.mk (below_step bs hb);clear BK286 BK287 HB;have BK286:=n0_;have BK287:=n1_;have HB:=n2_;clear n0_ n1_ n2_;(try clear hb);have hcz12_0 : w11.cell? ⟨gb286,0,none⟩ = some (.int .i64 a0_0):=(blk_cell BK286.out 0).trans rfl;have hcz12_1 : w11.cell? ⟨gb286,1,none⟩ = some (.slice A0_1 l0_1.length c0_1):=(blk_cell BK286.out 1).trans rfl;have hcz12_2 : w11.cell? ⟨gb286,2,none⟩ = some (.slice A0_2 l0_2.length c0_2):=(blk_cell BK286.out 2).trans rfl;have hfz12_0:=blk_frozen BK286.out 0;have hfz12_1:=blk_frozen BK286.out 1;have hfz12_2:=blk_frozen BK286.out 2)|(go_at_call 67;(with_reducible refine (impl_isOrder.calls k _ _ l1 (l0_1.length : Int) t289 _ ?side1 ?side2 A8.out).mono ?_);(case side1=>exact cz (Kd.C_below HR1.out HB.out));(case side2=>exact HC1.out);rintro e w13 ⟨rfl,hb⟩;have n0_:=Aside0.mk (kb BK286.out hb);have n1_:=Aside0.mk (kb BK287.out hb);have n2_:=Aside0.mk (below_step bs hb);clear BK286 BK287 HB;have BK286:=n0_;have BK287:=n1_;have HB:=n2_;clear n0_ n1_ n2_;(try clear hb)))
   go_meet
   case rel=>exact ⟨_,(!t289),fz,H',⟨by first|omega|exact Nat.le_refl _⟩,⟨by (with_reducible repeat (first|refine blk_drewN ?_ _|refine blk_drew ?_|refine blk_alloc ?_ _));exact BK286.out⟩,⟨by (with_reducible repeat (first|refine blk_drewN ?_ _|refine blk_drew ?_|refine blk_alloc ?_ _));exact BK287.out⟩,⟨by repeat (first|(with_reducible first|exact HB.out|apply below_alloc|apply pw_below_drewN|apply below_drew1|refine below_set ?_ GE286.out|refine below_set ?_ GE287.out)|exact HB.out)⟩⟩
  ·replace c7:=Bool.eq_false_iff.mpr c7
   subst c7
   rw [if_neg (show ¬ (false = true) by decide)] at H
   have H':=Aside0.mk H
   clear H
   have hnb14:=NB286_287.out
   have hnc14:=NB287_286.out
   have hcz15_0 : w5.cell? ⟨gb286,0,none⟩ = some (.int .i64 a0_0):=(blk_cell BK286.out 0).trans rfl
   have hcz15_1 : w5.cell? ⟨gb286,1,none⟩ = some (.slice A0_1 l0_1.length c0_1):=(blk_cell BK286.out 1).trans rfl
   have hcz15_2 : w5.cell? ⟨gb286,2,none⟩ = some (.slice A0_2 l0_2.length c0_2):=(blk_cell BK286.out 2).trans rfl
   have hfz15_0:=blk_frozen BK286.out 0
   have hfz15_1:=blk_frozen BK286.out 1
   have hfz15_2:=blk_frozen BK286.out 2
   go_wp2_with (first|((with_reducible refine gate_callee (f:=44) rfl ?_);refine goesL_ (some 13) rfl rfl Try.func44 (by kernel_rfl) rfl #[.agg #[.int .i64 a0_0,.slice A0_1 l0_1.length c0_1,.slice A0_2 l0_2.length c0_2]] rfl mz ?_;(with_reducible refine (impl_IsPlan.calls k a0_0 _ _ l0_1 _ _ l0_2 false _ ?side1 ?side2 ?side3 ?side4 A6.out).mono ?_);(case side1=>exact cz (Kd.C_below HR0_1.out HB.out));(case side2=>exact HC0_1.out);(case side3=>exact cz (Kd.C_below HR0_2.out HB.out));(case side4=>exact HC0_2.out);rintro e w16 ⟨rfl,hb⟩;refine ⟨_,rfl,?_⟩;have n0_:=Aside0.mk (kb BK286.out hb);have n1_:=Aside0.mk (kb BK287.out hb);have n2_:=Aside0.mk (below_step bs hb);clear BK286 BK287 HB;have BK286:=n0_;have BK287:=n1_;have HB:=n2_;clear n0_ n1_ n2_;(try clear hb)))
   go_meet
   case rel=>exact ⟨_,(true),fz,H',⟨by first|omega|exact Nat.le_refl _⟩,⟨by (with_reducible repeat (first|refine blk_drewN ?_ _|refine blk_drew ?_|refine blk_alloc ?_ _));exact BK286.out⟩,⟨by (with_reducible repeat (first|refine blk_drewN ?_ _|refine blk_drew ?_|refine blk_alloc ?_ _));exact BK287.out⟩,⟨by repeat (first|(with_reducible first|exact HB.out|apply below_alloc|apply pw_below_drewN|apply below_drew1|refine below_set ?_ GE286.out|refine below_set ?_ GE287.out)|exact HB.out)⟩⟩
 case rest=>
  clear HC3
  try clear c1
  try clear c2
  try clear p2
  try clear c4
  try clear c7
  try clear c9
  try clear c14
  try clear hcz10_0
  try clear hcz10_1
  try clear hcz10_2
  try clear hcz12_0
  try clear hcz12_1
  try clear hcz12_2
  try clear hcz15_0
  try clear hcz15_1
  try clear hcz15_2
  try clear hfz10_0
  try clear hfz10_1
  try clear hfz10_2
  try clear hfz12_0
  try clear hfz12_1
  try clear hfz12_2
  try clear hfz15_0
  try clear hfz15_1
  try clear hfz15_2
  obtain ⟨kq,x22_2,rfl,HA,HJ2,BK286,BK287,HB⟩:=hcut
  cases kq with
  | zero=>exact absurd HA.out (by simp [impl_ReorderSteps.j0])
  | succ kj2=>
   have H:=HA.out
   clear HA
   simp only [impl_ReorderSteps.j0] at H
   by_cases c17 : x22_2 = true
   ·subst c17
    rw [if_pos rfl] at H
    simp only [Option.some.injEq,Prod.mk.injEq] at H
    obtain ⟨rfl,rfl,rfl,rfl⟩:=H
    have hnb18:=NB287_286.out
    have hnc18:=NB286_287.out
    have hcz19_0 : wc.cell? ⟨gb287,0,none⟩ = some (.int .i64 0):=(blk_cell BK287.out 0).trans rfl
    have hcz19_1 : wc.cell? ⟨gb287,1,none⟩ = some (.slice none 0 0):=(blk_cell BK287.out 1).trans rfl
    have hcz19_2 : wc.cell? ⟨gb287,2,none⟩ = some (.slice none 0 0):=(blk_cell BK287.out 2).trans rfl
    have hfz19_0:=blk_frozen BK287.out 0
    have hfz19_1:=blk_frozen BK287.out 1
    have hfz19_2:=blk_frozen BK287.out 2
    go_wp2
    refine bodyPost_ret (results_ct rfl _ _ gb287 29 #[.int .i64 0,.slice none 0 0,.slice none 0 0] (0,0) _ rfl (by (with_reducible repeat (first|refine blk_drewN ?_ _|refine blk_drew ?_|refine blk_alloc ?_ _));refine blk_put (cs:=#[.int .i64 0,.slice none 0 0,.slice none 0 0]) ?_ 2 _ rfl;(with_reducible repeat (first|refine blk_drewN ?_ _|refine blk_drew ?_|refine blk_alloc ?_ _));refine blk_put (cs:=#[.int .i64 0,.slice none 0 0,.slice none 0 0]) ?_ 1 _ rfl;(with_reducible repeat (first|refine blk_drewN ?_ _|refine blk_drew ?_|refine blk_alloc ?_ _));refine blk_put (cs:=#[.int .i64 0,.slice none 0 0,.slice none 0 0]) ?_ 0 _ rfl;(with_reducible repeat (first|refine blk_drewN ?_ _|refine blk_drew ?_|refine blk_alloc ?_ _));exact BK287.out) Try.underlying29 rfl (by kernel_rfl)) rfl ?_
    exact ⟨_,_,by first|rfl|(simp [errW_none,errW_some] <;> rfl)|(simp [*,errW_none,errW_some] <;> rfl),by first|exact Kd.R_nil _ _ _ _ _|exact Kd.N_nil _ _ _ _ _|exact Kd.V_nil _ _ _ _ _|exact Kd.Q_nil _ _ _ _ _|exact Kd.S_nil _ _ _ _ _,by first|exact Kd.R_nil _ _ _ _ _|exact Kd.N_nil _ _ _ _ _|exact Kd.V_nil _ _ _ _ _|exact Kd.Q_nil _ _ _ _ _|exact Kd.S_nil _ _ _ _ _,by repeat (first|(with_reducible first|exact HB.out|apply below_alloc|apply pw_below_drewN|apply below_drew1|refine below_set ?_ GE286.out|refine below_set ?_ GE287.out)|exact HB.out)⟩
   ·replace c17:=Bool.eq_false_iff.mpr c17
    subst c17
    rw [if_neg (show ¬ (false = true) by decide)] at H
    obtain ⟨t290,A20,H⟩:=bd H
    by_cases c21 : 0 ≤ (l0_1.length : Int)
    ·rw [if_pos c21] at H
     have c21b0:=eq_true c21
     have c21b1 : decide (0 ≤ (l0_1.length : Int)) = true:=decide_eq_true c21
     clear c21
     by_cases c22 : t290.length + ((l0_1.length : Int) : Int).toNat < 17592186044416
     ·rw [if_pos c22] at H
      have LMc22:=Aside0.mk c22
      clear c22
      obtain ⟨y293,hy293⟩ : ∃ y_ : List Int,y_ = (t290 ++ List.replicate ((l0_1.length : Int) : Int).toNat 0):=⟨_,rfl⟩
      replace H : (impl_ReorderSteps.l0 kj2 l1 y293 l1 (l1.length : Int) 0 a0_0 l0_1 l0_2) = some (r1,r2,r3,r4):=by first|(rw [hy293];with_reducible exact H)|(have H2_:=(Option.bind_some _ _).symm.trans H;rw [hy293];with_reducible exact H2_)|(have H2_:=(Option.bind_some _ _).symm.trans H;with_reducible exact H2_)|with_reducible exact H|(rw [hy293];exact H)|exact H
      have Ny293:=Aside0.mk hy293
      clear hy293
      have H':=Aside0.mk H
      clear H
      try go_wp2
      have n0_:=Aside0.mk (blk_drew BK286.out)
      have n1_:=Aside0.mk (blk_drew BK287.out)
      have n2_:=Aside0.mk (below_drew1 HB.out)
      clear BK286
      clear BK287
      clear HB
      have BK286:=n0_
      have BK287:=n1_
      have HB:=n2_
      clear n0_ n1_ n2_
      refine start_ (n:=8) (S:=fun w'=>w'.cell? ⟨gb286,0,none⟩ = some (.int .i64 a0_0) ∧ w'.cell? ⟨gb286,1,none⟩ = some (.slice A0_1 l0_1.length c0_1) ∧ w'.cell? ⟨gb286,2,none⟩ = some (.slice A0_2 l0_2.length c0_2)) (ds:=[]) #[false,false,false,false,false,false,false,false] (by kernel_rfl) rfl rfl ⟨(blk_cell BK286.out 0).trans rfl,(blk_cell BK286.out 1).trans rfl,(blk_cell BK286.out 2).trans rfl⟩ (fun hHeld=>?_);refine with_tabW impl_ReorderSteps.tab3 impl_ReorderSteps.bits3 (fun HT_ HW_=>?_)
      generalize wc.drew = w23 at BK286 BK287 HB hHeld ⊢
      refine pure_ (i:=0) (N:=some 24) (v:=?_) (a':=?_) #[true,false,false,false,false,false,false,false] rfl rfl (any_of HT_.out (by kernel_rfl)) (fun _ _ _ h=>h) (Or.inl ⟨by rfl,?_⟩) ?_ ?_
      rotate_left
      ·intro w'
       go_simp
       with_reducible rfl
      rotate_left
      ·simp only [Act.put,xa,xb,xc,i64_w,i32_w]
       rfl
      refine pure_ (i:=3) (N:=some 27) (v:=?_) (a':=?_) #[true,false,false,true,false,false,false,false] rfl rfl (any_of HT_.out (by kernel_rfl)) (fun _ _ _ h=>h) (Or.inl ⟨by rfl,?_⟩) ?_ ?_
      rotate_left
      ·intro w'
       go_simp
       with_reducible rfl
      rotate_left
      ·simp only [Act.put,xa,xb,xc,i64_w,i32_w]
       rfl
      refine take_ (i:=1) (N:=some 25) (v:=?_) (a':=?_) #[true,true,false,true,false,false,false,false] rfl rfl (take_ofW HT_.out HW_.out (by kernel_rfl)) (fun _ _ _ h=>h) (Or.inl ⟨by rfl,?_⟩) hHeld ?_ ?_
      rotate_left
      ·rintro w' ⟨s0,s1,s2⟩
       go_simp
       with_reducible rfl
      rotate_left
      ·simp only [Act.put,xa,xb,xc,i64_w,i32_w]
       rfl
      refine take_ (i:=4) (N:=some 28) (v:=?_) (a':=?_) #[true,true,false,true,true,false,false,false] rfl rfl (take_ofW HT_.out HW_.out (by kernel_rfl)) (fun _ _ _ h=>h) (Or.inl ⟨by rfl,?_⟩) hHeld ?_ ?_
      rotate_left
      ·rintro w' ⟨s0,s1,s2⟩
       go_simp
       with_reducible rfl
      rotate_left
      ·simp only [Act.put,xa,xb,xc,i64_w,i32_w]
       rfl
      refine pure_ (i:=5) (N:=some 29) (v:=?_) (a':=?_) #[true,true,false,true,true,true,false,false] rfl rfl (any_of HT_.out (by kernel_rfl)) (fun _ _ _ h=>h) (Or.inl ⟨by rfl,?_⟩) ?_ ?_
      rotate_left
      ·intro w'
       go_simp
       with_reducible rfl
      rotate_left
      ·simp only [Act.put,xa,xb,xc,i64_w,i32_w]
       rfl
      refine one_ (i:=2) (N:=some 26) #[true,true,true,true,true,true,false,false] rfl rfl (one_of HT_.out (by kernel_rfl)) (by decide) (fun K hK=>?_)
      refine goes_ Try.func48 (by kernel_rfl) rfl #[.int .i64 a0_0] (by rfl) rfl rfl mz ?_
      with_reducible refine (impl_firsts.calls kj2 a0_0 t290 _ A20.out).mono ?_
      rintro e w24 ⟨v291,rfl,ho0,hb⟩
      refine ⟨_,rfl,?_⟩
      have n0_:=Aside0.mk (Kd.R_lower ho0 (below_size bs))
      have n1_:=Aside0.mk (kb BK286.out hb)
      have n2_:=Aside0.mk (kb BK287.out hb)
      have n3_:=Aside0.mk (below_step bs hb)
      clear BK286
      clear BK287
      clear HB
      have HO292:=n0_
      have BK286:=n1_
      have BK287:=n2_
      have HB:=n3_
      clear n0_ n1_ n2_ n3_
      (try clear hb)
      (try clear ho0)
      refine hK.out _ _ ⟨(blk_cell BK286.out 0).trans rfl,(blk_cell BK286.out 1).trans rfl,(blk_cell BK286.out 2).trans rfl⟩ (fun hHeld=>?_)
      clear hK K
      refine norm_ (a':=?_) ?_ ?_
      rotate_left
      ·show Act.put _ (some 26) _ = _
       simp only [Act.put,xa,xb,xc,i64_w,i32_w]
       rfl
      refine one_ (i:=6) (N:=some 30) #[true,true,true,true,true,true,true,false] rfl rfl (one_of HT_.out (by kernel_rfl)) (by decide) (fun K hK=>?_)
      refine Kd.R_append_zeros_step (Kd.int .i64) (w0:=w) w.heap.size (by rfl) (.tmp 26) (.tmp 29) 23 3 3 (.int .i64 0) 8 rfl Try.underlying23 Try.underlying3 info3 rfl (by decide) (by omega) v291 t290 0 ((l0_1.length : Int) : Int) (fun _=>True) rfl rfl rfl ?aF ?aO (of_decide_eq_true az) ?aB ?aS ?aL ?_
      (case aB=>exact bs)
      (case aF=>exact (fun _ _=>trivial))
      (case aO=>exact (rz HO292.out))
      (case aS=>exact (below_size bs))
      (case aL=>have:=LMc22.out;omega)
      intro v294 w25 ho hb hg hat
      rw [← Ny293.out] at ho
      have n0_:=Aside0.mk (blk_grown (g:=gb286) (o:=.cells #[.int .i64 a0_0,.slice A0_1 l0_1.length c0_1,.slice A0_2 l0_2.length c0_2] 29 (0,0)) (kz BK286.out) hg (Kd.R_ne HO292.out BK286.out (by decide)))
      have n1_:=Aside0.mk (blk_grown (g:=gb287) (o:=.cells #[.int .i64 0,.slice none 0 0,.slice none 0 0] 29 (0,0)) (kz BK287.out) hg (Kd.R_ne HO292.out BK287.out (by decide)))
      have n2_:=Aside0.mk (hb)
      have n3_:=Aside0.mk (ho)
      clear BK286
      clear BK287
      clear HB
      clear HO292
      have BK286:=n0_
      have BK287:=n1_
      have HB:=n2_
      have HO295:=n3_
      clear n0_ n1_ n2_ n3_
      clear ho hb hg hat
      refine hK.out _ _ ⟨(blk_cell BK286.out 0).trans rfl,(blk_cell BK286.out 1).trans rfl,(blk_cell BK286.out 2).trans rfl⟩ (fun hHeld=>?_)
      clear hK K
      refine norm_ (a':=?_) ?_ ?_
      rotate_left
      ·show Act.put _ (some 30) _ = _
       simp only [Act.put,xa,xb,xc,i64_w,i32_w]
       rfl
      refine pure_ (i:=7) (N:=some 6) (v:=?_) (a':=?_) #[true,true,true,true,true,true,true,true] rfl rfl (any_of HT_.out (by kernel_rfl)) (fun _ _ _ h=>h) (Or.inl ⟨by rfl,?_⟩) ?_ ?_
      rotate_left
      ·intro w'
       go_simp
       with_reducible rfl
      rotate_left
      ·simp only [Act.put,xa,xb,xc,i64_w,i32_w]
       rfl
      refine done_ (done_of HT_.out (by kernel_rfl)) ?_
      try go_wp2
      go_loopg [33] kj2 (fun kq v33 w'=>∃ (x6_2 : List Int) (x33_2 : Int),v33 = .int .i64 x33_2 ∧ Aside0 (impl_ReorderSteps.l0 kq l1 x6_2 l1 (l1.length : Int) x33_2 a0_0 l0_1 l0_2 = some (r1,r2,r3,r4)) ∧ Aside0 (kq ≤ kj2) ∧ Aside0 (Kd.R (Kd.int .i64) 3 w' w.heap.size (fun _=>True) v294 x6_2) ∧ Aside0 (w'.heap[gb286]? = some (.cells #[.int .i64 a0_0,(.slice A0_1 l0_1.length c0_1),(.slice A0_2 l0_2.length c0_2)] 29 (0,0))) ∧ Aside0 (w'.heap[gb287]? = some (.cells #[.int .i64 0,(.slice none 0 0),(.slice none 0 0)] 29 (0,0))) ∧ Aside0 (Below w.heap.size w w'))
      case atStart=>exact ⟨(y293),(0),fz,H',⟨Nat.le_refl _⟩,⟨by (with_reducible repeat (first|apply Kd.R_alloc|apply Kd.R_drewN|apply Kd.R_drew));exact HO295.out⟩,⟨by (with_reducible repeat (first|refine blk_drewN ?_ _|refine blk_drew ?_|refine blk_alloc ?_ _));exact BK286.out⟩,⟨by (with_reducible repeat (first|refine blk_drewN ?_ _|refine blk_drew ?_|refine blk_alloc ?_ _));exact BK287.out⟩,⟨by repeat (first|(with_reducible first|exact HB.out|apply below_alloc|apply pw_below_drewN|apply below_drew1|refine below_set ?_ GE286.out|refine below_set ?_ GE287.out)|exact HB.out)⟩⟩
      case round=>
       clear H'
       try clear c1
       try clear c2
       try clear p2
       try clear c4
       try clear c7
       try clear c9
       try clear c14
       try clear c17
       try clear c18
       try clear c21
       try clear c21b0
       try clear c21b1
       try clear c22
       try clear hcz10_0
       try clear hcz10_1
       try clear hcz10_2
       try clear hcz12_0
       try clear hcz12_1
       try clear hcz12_2
       try clear hcz15_0
       try clear hcz15_1
       try clear hcz15_2
       try clear hcz19_0
       try clear hcz19_1
       try clear hcz19_2
       try clear hfz10_0
       try clear hfz10_1
       try clear hfz10_2
       try clear hfz12_0
       try clear hfz12_1
       try clear hfz12_2
       try clear hfz15_0
       try clear hfz15_1
       try clear hfz15_2
       try clear hfz19_0
       try clear hfz19_1
       try clear hfz19_2
       try clear p2
       obtain ⟨x6_2,x33_2,rfl,HA,HK2,HO_6,BK286,BK287,HB⟩:=hrel
       cases gk with
       | zero=>exact absurd HA.out (by simp [impl_ReorderSteps.l0])
       | succ k2=>
        have H:=HA.out
        clear HA
        simp only [impl_ReorderSteps.l0] at H
        by_cases c26 : x33_2 < (l1.length : Int)
        ·rw [if_pos c26] at H
         have c26b0 : decide (x33_2 < (l1.length : Int)) = true:=decide_eq_true c26
         clear c26
         by_cases c27 : 0 ≤ x33_2
         ·rw [if_pos c27] at H
          have c27b0 : decide (0 ≤ x33_2) = true:=decide_eq_true c27
          clear c27
          by_cases c28 : x33_2 < (l1.length : Int)
          ·rw [if_pos c28] at H
           have c28b0 : decide (x33_2 < (l1.length : Int)) = true:=decide_eq_true c28
           clear c28
           obtain ⟨ji29,hji29⟩ : ∃ j_ : Int,(wrap64 (a0_0 + (rd l1 x33_2))) = j_:=⟨_,rfl⟩
           replace H : (if 0 ≤ (ji29) then (if (ji29) < (x6_2.length : Int) then (impl_ReorderSteps.l0 k2 l1 (x6_2.set ((ji29) : Int).toNat (wrap64 (a0_0 + x33_2))) l1 (l1.length : Int) (wrap64 (x33_2 + 1)) a0_0 l0_1 l0_2) else (none)) else (none)) = some (r1,r2,r3,r4):=by first|(rw [hji29] at H;exact H)|(simp only [hji29] at H ⊢;exact H)
           have hji29w : (IntKind.i64.wrap (a0_0 + (rd l1 x33_2))) = ji29:=(i64_w _).trans hji29
           by_cases c30 : 0 ≤ (ji29)
           ·rw [if_pos c30] at H
            have c30b0 : decide (0 ≤ (ji29)) = true:=decide_eq_true c30
            clear c30
            by_cases c31 : (ji29) < (x6_2.length : Int)
            ·rw [if_pos c31] at H
             have c31b0 : decide ((ji29) < (x6_2.length : Int)) = true:=decide_eq_true c31
             clear c31
             obtain ⟨y297,hy297⟩ : ∃ y_ : List Int,y_ = (x6_2.set ((ji29) : Int).toNat (wrap64 (a0_0 + x33_2))):=⟨_,rfl⟩
             replace H : (impl_ReorderSteps.l0 k2 l1 y297 l1 (l1.length : Int) (wrap64 (x33_2 + 1)) a0_0 l0_1 l0_2) = some (r1,r2,r3,r4):=by first|(rw [hy297];with_reducible exact H)|(have H2_:=(Option.bind_some _ _).symm.trans H;rw [hy297];with_reducible exact H2_)|(have H2_:=(Option.bind_some _ _).symm.trans H;with_reducible exact H2_)|with_reducible exact H|(rw [hy297];exact H)|exact H
             have Ny297:=Aside0.mk hy297
             clear hy297
             have H':=Aside0.mk H
             clear H
             have p296 : 0 ≤ (x33_2 : Int):=of_decide_eq_true az
             have q296 : x33_2 < (l1.length : Int):=of_decide_eq_true az
             obtain ⟨ad296,e296,hx296_0⟩:=Kd.at_int HR1.out x33_2 p296 q296
             cases e296
             replace hx296_0:=(HB.out.cell (World.block_lt_of_cell? w _ hx296_0)).trans hx296_0
             replace p296:=eq_true p296
             replace q296:=eq_true q296
             have hnb33:=NB286_287.out
             have hnc33:=NB287_286.out
             have hcz34_0 : wr.cell? ⟨gb286,0,none⟩ = some (.int .i64 a0_0):=(blk_cell BK286.out 0).trans rfl
             have hcz34_1 : wr.cell? ⟨gb286,1,none⟩ = some (.slice A0_1 l0_1.length c0_1):=(blk_cell BK286.out 1).trans rfl
             have hcz34_2 : wr.cell? ⟨gb286,2,none⟩ = some (.slice A0_2 l0_2.length c0_2):=(blk_cell BK286.out 2).trans rfl
             have hfz34_0:=blk_frozen BK286.out 0
             have hfz34_1:=blk_frozen BK286.out 1
             have hfz34_2:=blk_frozen BK286.out 2
             have p32 : 0 ≤ ((ji29) : Int):=of_decide_eq_true az
             have q32 : ((ji29) : Int) < ((x6_2.length : Int) : Int):=of_decide_eq_true az
             obtain ⟨go32,co32,eo32,gb32,gl32,cl32,HG32⟩:=Kd.R_form HO_6.out (by omega)
             (first|cases eo32|(injection eo32 with ea_ en_ ec_;(first|subst ea_|(injection ea_ with ea_;subst ea_));subst ec_;clear en_))
             have GB32:=Aside0.mk gb32
             have GG32:=Aside0.mk HG32
             clear gb32 gl32 HG32
             obtain ⟨hx32_0,hf32_0⟩:=Kd.R_celln 0 HO_6.out ((ji29) : Int) p32 q32
             replace p32:=eq_true p32
             replace q32:=eq_true q32
             have HP35:=Kd.R_putg HO_6.out ((ji29) : Int) (wrap64 (a0_0 + x33_2))
             go_wp2_with (first|((with_reducible refine gate_store (t:=3) (p:=47) rfl ?_);refine store_event (t:=3) (p:=47) (v:=?vo_w36) (w1:=(wr.setCell ⟨go32,((ji29) : Int).toNat,none⟩ (.int .i64 (wrap64 (a0_0 + x33_2))))) ?hg ?ho ?hn ?hr ?_;(case ho=>rfl);(case hg=>rfl);(case hn=>rfl);(case hr=>first|(go_simp;done)|(go_simp;rfl));intro w36 hw;have hg : wr.grownBy w36 (some go32):=(by rw [hw];exact HP35.2);have hp_ : Kd.R (Kd.int .i64) 3 w36 w.heap.size (fun _=>True) (.slice (some ⟨go32,0,none⟩) x6_2.length co32) y297:=(by rw [hw,Ny297.out];exact HP35.1);clear HP35;have n0_:=Aside0.mk (hp_);have n1_:=Aside0.mk (blk_grown (g:=gb286) (o:=.cells #[.int .i64 a0_0,.slice A0_1 l0_1.length c0_1,.slice A0_2 l0_2.length c0_2] 29 (0,0)) (kz BK286.out) hg (Kd.R_ne HO_6.out BK286.out (by decide)));have n2_:=Aside0.mk (blk_grown (g:=gb287) (o:=.cells #[.int .i64 0,.slice none 0 0,.slice none 0 0] 29 (0,0)) (kz BK287.out) hg (Kd.R_ne HO_6.out BK287.out (by decide)));have n3_:=Aside0.mk ((by rw [hw];exact below_set (HB.out) GB32.out : Below w.heap.size w w36));clear HO_6 BK286 BK287 HB;have HO_6:=n0_;have BK286:=n1_;have BK287:=n2_;have HB:=n3_;clear n0_ n1_ n2_ n3_;clear hg hw hp_))
             go_roundg k2
             case measure=>have:=HJ2.out;have:=HK2.out;omega
             case rel=>exact ⟨(y297),(wrap64 (x33_2 + 1)),fz,H',⟨by have:=HJ2.out;have:=HK2.out;omega⟩,⟨by (with_reducible repeat (first|apply Kd.R_alloc|apply Kd.R_drewN|apply Kd.R_drew));exact HO_6.out⟩,⟨by (with_reducible repeat (first|refine blk_drewN ?_ _|refine blk_drew ?_|refine blk_alloc ?_ _));exact BK286.out⟩,⟨by (with_reducible repeat (first|refine blk_drewN ?_ _|refine blk_drew ?_|refine blk_alloc ?_ _));exact BK287.out⟩,⟨by repeat (first|(with_reducible first|exact HB.out|apply below_alloc|apply pw_below_drewN|apply below_drew1|refine below_set ?_ GE286.out|refine below_set ?_ GE287.out)|exact HB.out)⟩⟩
            ·rw [if_neg c31] at H
             exact absurd H (by simp)
           ·rw [if_neg c30] at H
            exact absurd H (by simp)
          ·rw [if_neg c28] at H
           exact absurd H (by simp)
         ·rw [if_neg c27] at H
          exact absurd H (by simp)
        ·rw [if_neg c26] at H
         have c26b0 : decide (x33_2 < (l1.length : Int)) = false:=decide_eq_false c26
         clear c26
         obtain ⟨t298,A37,H⟩:=bd H
         have H':=Aside0.mk H
         clear H
         obtain ⟨Ao38,co38,eo38⟩:=Kd.R_slice HO_6.out
         subst eo38
         try go_wp2
         have n0_:=Aside0.mk (Kd.R_drew HO_6.out)
         have n1_:=Aside0.mk (blk_drew BK286.out)
         have n2_:=Aside0.mk (blk_drew BK287.out)
         have n3_:=Aside0.mk (below_drew1 HB.out)
         clear HO_6
         clear BK286
         clear BK287
         clear HB
         have HO_6:=n0_
         have BK286:=n1_
         have BK287:=n2_
         have HB:=n3_
         clear n0_ n1_ n2_ n3_
         refine start_ (n:=9) (S:=fun w'=>w'.cell? ⟨gb286,0,none⟩ = some (.int .i64 a0_0) ∧ w'.cell? ⟨gb286,1,none⟩ = some (.slice A0_1 l0_1.length c0_1) ∧ w'.cell? ⟨gb286,2,none⟩ = some (.slice A0_2 l0_2.length c0_2)) (ds:=[]) #[false,false,false,false,false,false,false,false,false] (by kernel_rfl) rfl rfl ⟨(blk_cell BK286.out 0).trans rfl,(blk_cell BK286.out 1).trans rfl,(blk_cell BK286.out 2).trans rfl⟩ (fun hHeld=>?_);refine with_tabW impl_ReorderSteps.tab9 impl_ReorderSteps.bits9 (fun HT_ HW_=>?_)
         generalize wr.drew = w39 at HO_6 BK286 BK287 HB hHeld ⊢
         refine pure_ (i:=0) (N:=some 49) (v:=?_) (a':=?_) #[true,false,false,false,false,false,false,false,false] rfl rfl (any_of HT_.out (by kernel_rfl)) (fun _ _ _ h=>h) (Or.inl ⟨by rfl,?_⟩) ?_ ?_
         rotate_left
         ·intro w'
          go_simp
          with_reducible rfl
         rotate_left
         ·simp only [Act.put,xa,xb,xc,i64_w,i32_w]
          rfl
         refine pure_ (i:=2) (N:=some 51) (v:=?_) (a':=?_) #[true,false,true,false,false,false,false,false,false] rfl rfl (any_of HT_.out (by kernel_rfl)) (fun _ _ _ h=>h) (Or.inl ⟨by rfl,?_⟩) ?_ ?_
         rotate_left
         ·intro w'
          go_simp
          with_reducible rfl
         rotate_left
         ·simp only [Act.put,xa,xb,xc,i64_w,i32_w]
          rfl
         refine pure_ (i:=4) (N:=some 53) (v:=?_) (a':=?_) #[true,false,true,false,true,false,false,false,false] rfl rfl (any_of HT_.out (by kernel_rfl)) (fun _ _ _ h=>h) (Or.inl ⟨by rfl,?_⟩) ?_ ?_
         rotate_left
         ·intro w'
          go_simp
          with_reducible rfl
         rotate_left
         ·simp only [Act.put,xa,xb,xc,i64_w,i32_w]
          rfl
         refine take_ (i:=1) (N:=some 50) (v:=?_) (a':=?_) #[true,true,true,false,true,false,false,false,false] rfl rfl (take_ofW HT_.out HW_.out (by kernel_rfl)) (fun _ _ _ h=>h) (Or.inl ⟨by rfl,?_⟩) hHeld ?_ ?_
         rotate_left
         ·rintro w' ⟨s0,s1,s2⟩
          go_simp
          with_reducible rfl
         rotate_left
         ·simp only [Act.put,xa,xb,xc,i64_w,i32_w]
          rfl
         refine take_ (i:=3) (N:=some 52) (v:=?_) (a':=?_) #[true,true,true,true,true,false,false,false,false] rfl rfl (take_ofW HT_.out HW_.out (by kernel_rfl)) (fun _ _ _ h=>h) (Or.inl ⟨by rfl,?_⟩) hHeld ?_ ?_
         rotate_left
         ·rintro w' ⟨s0,s1,s2⟩
          go_simp
          with_reducible rfl
         rotate_left
         ·simp only [Act.put,xa,xb,xc,i64_w,i32_w]
          rfl
         refine join_ (σ:=Value × Nat) 1 #[true,true,true,true,true,true,true,true,false] (fun s_=>[(54,s_.1),(9,.pointer (some ⟨s_.2,0,none⟩)),(55,.agg #[.int .i64 a0_0,.slice none 0 0,s_.1])]) (fun s_ w'=>(w'.cell? ⟨gb286,0,none⟩ = some (.int .i64 a0_0) ∧ w'.cell? ⟨gb286,1,none⟩ = some (.slice A0_1 l0_1.length c0_1) ∧ w'.cell? ⟨gb286,2,none⟩ = some (.slice A0_2 l0_2.length c0_2)) ∧ (Kd.R (Kd.int .i64) 3 w' w.heap.size (fun k_=>some k_ ≠ (.slice Ao38 x6_2.length co38 : Value).ownBlock) s_.1 t298) ∧ (Kd.R (Kd.int .i64) 3 w' w.heap.size (fun k_=>some k_ ≠ (s_.1 : Value).ownBlock) (.slice Ao38 x6_2.length co38) x6_2) ∧ (w'.heap[gb286]? = some (.cells #[.int .i64 a0_0,.slice A0_1 l0_1.length c0_1,.slice A0_2 l0_2.length c0_2] 29 (0,0))) ∧ (w'.heap[gb287]? = some (.cells #[.int .i64 0,.slice none 0 0,.slice none 0 0] 29 (0,0))) ∧ (w'.heap[s_.2]? = some (.cells #[.int .i64 0,.slice none 0 0,.slice none 0 0] 29 (0,0))) ∧ (w.heap.size ≤ s_.2) ∧ (w.heap.size ≤ s_.2) ∧ (gb286 ≠ s_.2) ∧ (s_.2 ≠ gb286) ∧ (gb287 ≠ s_.2) ∧ (s_.2 ≠ gb287) ∧ (Below w.heap.size w w')) ?_ ?_
         rotate_left
         ·intro hCont
          refine two_ (i:=5) (j:=7) (Ni:=some 54) (Nj:=some 9) #[true,true,true,true,true,true,false,false,false] #[true,true,true,true,true,false,false,true,false] rfl rfl rfl rfl (two_of HT_.out (by kernel_rfl)) (by decide) (by decide) (fun K hK=>?_) (fun K hK=>?_)
          ·skip
           refine goes_ Try.func46 (by kernel_rfl) rfl #[.slice A0_2 l0_2.length c0_2,.slice Ao38 x6_2.length co38] (by rfl) rfl rfl mz ?_
           with_reducible refine (impl_renamed.calls k2 _ _ l0_2 _ _ x6_2 t298 _ ?side1 ?side2 ?side3 ?side4 A37.out).mono ?_
           (case side1=>exact cz (Kd.C_below HR0_2.out HB.out))
           (case side2=>exact HC0_2.out)
           (case side3=>exact cz (Kd.R_reads' HO_6.out).2.2)
           (case side4=>exact (Kd.R_reads' HO_6.out).2.1)
           rintro e w40 ⟨v299,rfl,ho0,hb⟩
           refine ⟨_,rfl,?_⟩
           have n0_:=Aside0.mk (Kd.R_elder' (rz HO_6.out) (Kd.R_base ho0) hb)
           have n1_:=Aside0.mk (Kd.R_lower (Kd.R_new' ho0 (Kd.R_lt (rz HO_6.out))) (below_size bs))
           have n2_:=Aside0.mk (kb BK286.out hb)
           have n3_:=Aside0.mk (kb BK287.out hb)
           have n4_:=Aside0.mk (below_step bs hb)
           clear HO_6
           clear BK286
           clear BK287
           clear HB
           have HO_6:=n0_
           have HO300:=n1_
           have BK286:=n2_
           have BK287:=n3_
           have HB:=n4_
           clear n0_ n1_ n2_ n3_ n4_
           (try clear hb)
           (try clear ho0)
           obtain ⟨Ao41,co41,eo41⟩:=Kd.R_slice HO300.out
           (first|subst eo41|(injection eo41 with f1_ f2_ f3_;have f4_:=f1_.symm;have f5_:=f3_.symm;clear f1_ f2_ f3_;subst f4_;subst f5_))
           refine hK.out _ _ ⟨(blk_cell BK286.out 0).trans rfl,(blk_cell BK286.out 1).trans rfl,(blk_cell BK286.out 2).trans rfl⟩ (fun hHeld=>?_)
           clear hK K
           refine norm_ (a':=?_) ?_ ?_
           rotate_left
           ·show Act.put _ (some 54) _ = _
            simp only [Act.put,xa,xb,xc,i64_w,i32_w]
            rfl
           refine pure_ (i:=6) (N:=some 55) (v:=?_) (a':=?_) #[true,true,true,true,true,true,true,false,false] rfl rfl (any_of HT_.out (by kernel_rfl)) (fun _ _ _ h=>h) (Or.inl ⟨by rfl,?_⟩) ?_ ?_
           rotate_left
           ·intro w'
            go_simp
            with_reducible rfl
           rotate_left
           ·simp only [Act.put,xa,xb,xc,i64_w,i32_w]
            rfl
           refine one_ (i:=7) (N:=some 9) #[true,true,true,true,true,true,true,true,false] rfl rfl (one_of HT_.out (by kernel_rfl)) (by decide) (fun K hK=>?_)
           refine box_step ?hg (N:=9) ?hd (cs:=#[.int .i64 0,.slice none 0 0,.slice none 0 0]) (t:=29) ?hr ?_;(case hd=>rfl);(case hg=>rfl);(case hr=>first|(go_simp;done)|(go_simp;rfl))
           intro gb301 hg w42 hbox hb
           have n0_:=Aside0.mk (Kd.R_below (rz HO_6.out) hb)
           have n1_:=Aside0.mk (Kd.R_below (rz HO300.out) hb)
           have n2_:=Aside0.mk (kb BK286.out hb)
           have n3_:=Aside0.mk (kb BK287.out hb)
           have n4_:=Aside0.mk (below_step bs hb)
           have n5_:=Aside0.mk (hbox)
           have n6_:=Aside0.mk ((by rw [hg];exact (below_size bs) : w.heap.size ≤ gb301))
           have n7_:=Aside0.mk ((by rw [hg];exact (below_size bs) : w.heap.size ≤ gb301))
           have n8_:=Aside0.mk (kn hg BK286.out)
           have n9_:=Aside0.mk (km hg BK286.out)
           have n10_:=Aside0.mk (kn hg BK287.out)
           have n11_:=Aside0.mk (km hg BK287.out)
           clear HO_6
           clear HO300
           clear BK286
           clear BK287
           clear HB
           have HO_6:=n0_
           have HO300:=n1_
           have BK286:=n2_
           have BK287:=n3_
           have HB:=n4_
           have BK301:=n5_
           have GW301:=n6_
           have GE301:=n7_
           have NB286_301:=n8_
           have NB301_286:=n9_
           have NB287_301:=n10_
           have NB301_287:=n11_
           clear n0_ n1_ n2_ n3_ n4_ n5_ n6_ n7_ n8_ n9_ n10_ n11_
           clear hb hbox hg
           refine hK.out _ _ ⟨(blk_cell BK286.out 0).trans rfl,(blk_cell BK286.out 1).trans rfl,(blk_cell BK286.out 2).trans rfl⟩ (fun hHeld=>?_)
           clear hK K
           refine norm_ (a':=?_) ?_ ?_
           rotate_left
           ·show Act.put _ (some 9) _ = _
            simp only [Act.put,xa,xb,xc,i64_w,i32_w]
            rfl
           exact norm_ (by simp only [putAll,Act.put,xa,xb,xc]) (hCont (.slice Ao41 t298.length co41,gb301) _ ⟨hHeld,(by (with_reducible repeat (first|apply Kd.R_alloc|apply Kd.R_drewN|apply Kd.R_drew));exact Kd.R_mono HO300.out (fun _ hk=>hk.2)),(by (with_reducible repeat (first|apply Kd.R_alloc|apply Kd.R_drewN|apply Kd.R_drew));exact Kd.R_mono HO_6.out (fun _ hk=>hk.2)),(kz BK286.out),(kz BK287.out),(kz BK301.out),GW301.out,GE301.out,NB286_301.out,NB301_286.out,NB287_301.out,NB301_287.out,bs⟩)
          ·skip
           refine box_step ?hg (N:=9) ?hd (cs:=#[.int .i64 0,.slice none 0 0,.slice none 0 0]) (t:=29) ?hr ?_;(case hd=>rfl);(case hg=>rfl);(case hr=>first|(go_simp;done)|(go_simp;rfl))
           intro gb301 hg w40 hbox hb
           have n0_:=Aside0.mk (Kd.R_below (rz HO_6.out) hb)
           have n1_:=Aside0.mk (kb BK286.out hb)
           have n2_:=Aside0.mk (kb BK287.out hb)
           have n3_:=Aside0.mk (below_step bs hb)
           have n4_:=Aside0.mk (hbox)
           have n5_:=Aside0.mk ((by rw [hg];exact (below_size bs) : w.heap.size ≤ gb301))
           have n6_:=Aside0.mk ((by rw [hg];exact (below_size bs) : w.heap.size ≤ gb301))
           have n7_:=Aside0.mk (kn hg BK286.out)
           have n8_:=Aside0.mk (km hg BK286.out)
           have n9_:=Aside0.mk (kn hg BK287.out)
           have n10_:=Aside0.mk (km hg BK287.out)
           clear HO_6
           clear BK286
           clear BK287
           clear HB
           have HO_6:=n0_
           have BK286:=n1_
           have BK287:=n2_
           have HB:=n3_
           have BK301:=n4_
           have GW301:=n5_
           have GE301:=n6_
           have NB286_301:=n7_
           have NB301_286:=n8_
           have NB287_301:=n9_
           have NB301_287:=n10_
           clear n0_ n1_ n2_ n3_ n4_ n5_ n6_ n7_ n8_ n9_ n10_
           clear hb hbox hg
           refine hK.out _ _ ⟨(blk_cell BK286.out 0).trans rfl,(blk_cell BK286.out 1).trans rfl,(blk_cell BK286.out 2).trans rfl⟩ (fun hHeld=>?_)
           clear hK K
           refine norm_ (a':=?_) ?_ ?_
           rotate_left
           ·show Act.put _ (some 9) _ = _
            simp only [Act.put,xa,xb,xc,i64_w,i32_w]
            rfl
           refine one_ (i:=5) (N:=some 54) #[true,true,true,true,true,true,false,true,false] rfl rfl (one_of HT_.out (by kernel_rfl)) (by decide) (fun K hK=>?_)
           refine goes_ Try.func46 (by kernel_rfl) rfl #[.slice A0_2 l0_2.length c0_2,.slice Ao38 x6_2.length co38] (by rfl) rfl rfl mz ?_
           with_reducible refine (impl_renamed.calls k2 _ _ l0_2 _ _ x6_2 t298 _ ?side1 ?side2 ?side3 ?side4 A37.out).mono ?_
           (case side1=>exact cz (Kd.C_below HR0_2.out HB.out))
           (case side2=>exact HC0_2.out)
           (case side3=>exact cz (Kd.R_reads' HO_6.out).2.2)
           (case side4=>exact (Kd.R_reads' HO_6.out).2.1)
           rintro e w41 ⟨v299,rfl,ho0,hb⟩
           refine ⟨_,rfl,?_⟩
           have n0_:=Aside0.mk (Kd.R_elder' (rz HO_6.out) (Kd.R_base ho0) hb)
           have n1_:=Aside0.mk (Kd.R_lower (Kd.R_new' ho0 (Kd.R_lt (rz HO_6.out))) (below_size bs))
           have n2_:=Aside0.mk (kb BK286.out hb)
           have n3_:=Aside0.mk (kb BK287.out hb)
           have n4_:=Aside0.mk (kb BK301.out hb)
           have n5_:=Aside0.mk (below_step bs hb)
           clear HO_6
           clear BK286
           clear BK287
           clear BK301
           clear HB
           have HO_6:=n0_
           have HO300:=n1_
           have BK286:=n2_
           have BK287:=n3_
           have BK301:=n4_
           have HB:=n5_
           clear n0_ n1_ n2_ n3_ n4_ n5_
           (try clear hb)
           (try clear ho0)
           obtain ⟨Ao42,co42,eo42⟩:=Kd.R_slice HO300.out
           (first|subst eo42|(injection eo42 with f1_ f2_ f3_;have f4_:=f1_.symm;have f5_:=f3_.symm;clear f1_ f2_ f3_;subst f4_;subst f5_))
           refine hK.out _ _ ⟨(blk_cell BK286.out 0).trans rfl,(blk_cell BK286.out 1).trans rfl,(blk_cell BK286.out 2).trans rfl⟩ (fun hHeld=>?_)
           clear hK K
           refine norm_ (a':=?_) ?_ ?_
           rotate_left
           ·show Act.put _ (some 54) _ = _
            simp only [Act.put,xa,xb,xc,i64_w,i32_w]
            rfl
           refine pure_ (i:=6) (N:=some 55) (v:=?_) (a':=?_) #[true,true,true,true,true,true,true,true,false] rfl rfl (any_of HT_.out (by kernel_rfl)) (fun _ _ _ h=>h) (Or.inl ⟨by rfl,?_⟩) ?_ ?_
           rotate_left
           ·intro w'
            go_simp
            with_reducible rfl
           rotate_left
           ·simp only [Act.put,xa,xb,xc,i64_w,i32_w]
            rfl
           exact norm_ (by simp only [putAll,Act.put,xa,xb,xc]) (hCont (.slice Ao42 t298.length co42,gb301) _ ⟨hHeld,(by (with_reducible repeat (first|apply Kd.R_alloc|apply Kd.R_drewN|apply Kd.R_drew));exact Kd.R_mono HO300.out (fun _ hk=>hk.2)),(by (with_reducible repeat (first|apply Kd.R_alloc|apply Kd.R_drewN|apply Kd.R_drew));exact Kd.R_mono HO_6.out (fun _ hk=>hk.2)),(kz BK286.out),(kz BK287.out),(kz BK301.out),GW301.out,GE301.out,NB286_301.out,NB301_286.out,NB287_301.out,NB301_287.out,bs⟩)
         rintro ⟨v299,gb301⟩ w43 ⟨hS_,h0_,h1_,h2_,h3_,h4_,h5_,h6_,h7_,h8_,h9_,h10_,h11_⟩
         have n0_ : Aside0 (Kd.R (Kd.int .i64) 3 w43 w.heap.size (fun k_=>some k_ ≠ (.slice Ao38 x6_2.length co38 : Value).ownBlock) v299 t298):=⟨h0_⟩
         have n1_ : Aside0 (Kd.R (Kd.int .i64) 3 w43 w.heap.size (fun k_=>some k_ ≠ (v299 : Value).ownBlock) (.slice Ao38 x6_2.length co38) x6_2):=⟨h1_⟩
         have n2_ : Aside0 (w43.heap[gb286]? = some (.cells #[.int .i64 a0_0,.slice A0_1 l0_1.length c0_1,.slice A0_2 l0_2.length c0_2] 29 (0,0))):=⟨h2_⟩
         have n3_ : Aside0 (w43.heap[gb287]? = some (.cells #[.int .i64 0,.slice none 0 0,.slice none 0 0] 29 (0,0))):=⟨h3_⟩
         have n4_ : Aside0 (w43.heap[gb301]? = some (.cells #[.int .i64 0,.slice none 0 0,.slice none 0 0] 29 (0,0))):=⟨h4_⟩
         have n5_ : Aside0 (w.heap.size ≤ gb301):=⟨h5_⟩
         have n6_ : Aside0 (w.heap.size ≤ gb301):=⟨h6_⟩
         have n7_ : Aside0 (gb286 ≠ gb301):=⟨h7_⟩
         have n8_ : Aside0 (gb301 ≠ gb286):=⟨h8_⟩
         have n9_ : Aside0 (gb287 ≠ gb301):=⟨h9_⟩
         have n10_ : Aside0 (gb301 ≠ gb287):=⟨h10_⟩
         have n11_ : Aside0 (Below w.heap.size w w43):=⟨h11_⟩
         clear HO_6
         clear BK286
         clear BK287
         clear HB
         clear h0_ h1_ h2_ h3_ h4_ h5_ h6_ h7_ h8_ h9_ h10_ h11_
         have HO300:=n0_
         have HO_6:=n1_
         have BK286:=n2_
         have BK287:=n3_
         have BK301:=n4_
         have GW301:=n5_
         have GE301:=n6_
         have NB286_301:=n7_
         have NB301_286:=n8_
         have NB287_301:=n9_
         have NB301_287:=n10_
         have HB:=n11_
         clear n0_ n1_ n2_ n3_ n4_ n5_ n6_ n7_ n8_ n9_ n10_ n11_
         have hHeld : w43.cell? ⟨gb286,0,none⟩ = some (.int .i64 a0_0) ∧ w43.cell? ⟨gb286,1,none⟩ = some (.slice A0_1 l0_1.length c0_1) ∧ w43.cell? ⟨gb286,2,none⟩ = some (.slice A0_2 l0_2.length c0_2):=hS_
         obtain ⟨Ao44,co44,eo44⟩:=Kd.R_slice HO300.out
         (first|subst eo44|(injection eo44 with f1_ f2_ f3_;have f4_:=f1_.symm;have f5_:=f3_.symm;clear f1_ f2_ f3_;subst f4_;subst f5_))
         refine norm_ (a':=?_) ?_ ?_
         rotate_left
         ·simp only [putAll,Act.put,xa,xb,xc]
          rfl
         refine one_ (i:=8) (N:=none) #[true,true,true,true,true,true,true,true,true] rfl rfl (one_of HT_.out (by kernel_rfl)) (by decide) (fun K hK=>?_)
         have hs45 : w43.cell? ⟨gb301,0,none⟩ = some (.int .i64 0):=(blk_cell BK301.out 0).trans rfl
         have hfs45:=blk_frozen BK301.out 0
         have hns45_0:=NB286_301.out
         have hns45_1:=NB287_301.out
         have hms45_0:=NB301_286.out
         have hms45_1:=NB301_287.out
         have hs46 : w43.cell? ⟨gb301,1,none⟩ = some (.slice none 0 0):=(blk_cell BK301.out 1).trans rfl
         have hfs46:=blk_frozen BK301.out 1
         have hns46_0:=NB286_301.out
         have hns46_1:=NB287_301.out
         have hms46_0:=NB301_286.out
         have hms46_1:=NB301_287.out
         have hs47 : w43.cell? ⟨gb301,2,none⟩ = some (.slice none 0 0):=(blk_cell BK301.out 2).trans rfl
         have hfs47:=blk_frozen BK301.out 2
         have hns47_0:=NB286_301.out
         have hns47_1:=NB287_301.out
         have hms47_0:=NB301_286.out
         have hms47_1:=NB301_287.out
         refine skip_ (w1:=?_) (by rfl) rfl ?_ ?_
         rotate_left
         ·go_simp
          rfl
         refine hK.out _ _ ⟨((cell_far (p:=⟨gb301,_,none⟩) NB286_301.out _).trans (((cell_far (p:=⟨gb301,_,none⟩) NB286_301.out _).trans (((cell_far (p:=⟨gb301,_,none⟩) NB286_301.out _).trans (hHeld.1)))))),((cell_far (p:=⟨gb301,_,none⟩) NB286_301.out _).trans (((cell_far (p:=⟨gb301,_,none⟩) NB286_301.out _).trans (((cell_far (p:=⟨gb301,_,none⟩) NB286_301.out _).trans (hHeld.2.1)))))),((cell_far (p:=⟨gb301,_,none⟩) NB286_301.out _).trans (((cell_far (p:=⟨gb301,_,none⟩) NB286_301.out _).trans (((cell_far (p:=⟨gb301,_,none⟩) NB286_301.out _).trans (hHeld.2.2))))))⟩ (fun hHeld=>?_)
         clear hK K
         refine done_ (done_of HT_.out (by kernel_rfl)) ?_
         try go_wp2
         go_loopg [58] k2 (fun kq v58 w'=>∃ (x58_3 : Int) (x302001_3 : List (S73)) (u302001 : Value),v58 = .int .i64 x58_3 ∧ Aside0 (impl_ReorderSteps.l1 kq x6_2 l1 (l1.length : Int) x58_3 a0_0 l0_1 l0_2 a0_0 x302001_3 t298 = some (r1,r2,r3,r4)) ∧ Aside0 (kq ≤ k2) ∧ Aside0 (Kd.R (Kd.int .i64) 3 w' w.heap.size (fun k_=>some k_ ≠ ((.slice Ao44 t298.length co44) : Value).ownBlock) (.slice Ao38 x6_2.length co38) x6_2) ∧ Aside0 (Kd.R k73 73 w' w.heap.size (fun _=>True) u302001 x302001_3) ∧ Aside0 (Kd.R (Kd.int .i64) 3 w' w.heap.size (fun k_=>some k_ ≠ ((.slice Ao38 x6_2.length co38) : Value).ownBlock) (.slice Ao44 t298.length co44) t298) ∧ Aside0 (w'.heap[gb286]? = some (.cells #[.int .i64 a0_0,(.slice A0_1 l0_1.length c0_1),(.slice A0_2 l0_2.length c0_2)] 29 (0,0))) ∧ Aside0 (w'.heap[gb287]? = some (.cells #[.int .i64 0,(.slice none 0 0),(.slice none 0 0)] 29 (0,0))) ∧ Aside0 (w'.heap[gb301]? = some (.cells #[.int .i64 a0_0,u302001,(.slice Ao44 t298.length co44)] 29 (0,0))) ∧ Aside0 (Below w.heap.size w w'))
         case atStart=>exact ⟨(0),(([] : List (S73))),(.slice none 0 0),fz,H',⟨Nat.le_refl _⟩,⟨by (with_reducible repeat (first|apply Kd.R_alloc|apply Kd.R_drewN|apply Kd.R_drew));exact Kd.R_mono (Kd.R_far (p:=⟨gb301,2,none⟩) (Kd.R_far (p:=⟨gb301,1,none⟩) (Kd.R_far (p:=⟨gb301,0,none⟩) (Kd.R_types HO_6.out BK301.out (by decide)) (fun _ hk=>hk.2) (.int .i64 a0_0)) (fun _ hk=>hk.2) (.slice none 0 0)) (fun _ hk=>hk.2) (.slice Ao44 t298.length co44)) (fun _ hk=>hk.1)⟩,⟨by first|exact Kd.R_nil _ _ _ _ _|exact Kd.N_nil _ _ _ _ _|exact Kd.V_nil _ _ _ _ _|exact Kd.Q_nil _ _ _ _ _|exact Kd.S_nil _ _ _ _ _⟩,⟨by (with_reducible repeat (first|apply Kd.R_alloc|apply Kd.R_drewN|apply Kd.R_drew));exact Kd.R_mono (Kd.R_far (p:=⟨gb301,2,none⟩) (Kd.R_far (p:=⟨gb301,1,none⟩) (Kd.R_far (p:=⟨gb301,0,none⟩) (Kd.R_types HO300.out BK301.out (by decide)) (fun _ hk=>hk.2) (.int .i64 a0_0)) (fun _ hk=>hk.2) (.slice none 0 0)) (fun _ hk=>hk.2) (.slice Ao44 t298.length co44)) (fun _ hk=>hk.1)⟩,⟨by (with_reducible repeat (first|refine blk_drewN ?_ _|refine blk_drew ?_|refine blk_alloc ?_ _));refine blk_far ?_ NB286_301.out _;(with_reducible repeat (first|refine blk_drewN ?_ _|refine blk_drew ?_|refine blk_alloc ?_ _));refine blk_far ?_ NB286_301.out _;(with_reducible repeat (first|refine blk_drewN ?_ _|refine blk_drew ?_|refine blk_alloc ?_ _));refine blk_far ?_ NB286_301.out _;(with_reducible repeat (first|refine blk_drewN ?_ _|refine blk_drew ?_|refine blk_alloc ?_ _));exact BK286.out⟩,⟨by (with_reducible repeat (first|refine blk_drewN ?_ _|refine blk_drew ?_|refine blk_alloc ?_ _));refine blk_far ?_ NB287_301.out _;(with_reducible repeat (first|refine blk_drewN ?_ _|refine blk_drew ?_|refine blk_alloc ?_ _));refine blk_far ?_ NB287_301.out _;(with_reducible repeat (first|refine blk_drewN ?_ _|refine blk_drew ?_|refine blk_alloc ?_ _));refine blk_far ?_ NB287_301.out _;(with_reducible repeat (first|refine blk_drewN ?_ _|refine blk_drew ?_|refine blk_alloc ?_ _));exact BK287.out⟩,⟨by (with_reducible repeat (first|refine blk_drewN ?_ _|refine blk_drew ?_|refine blk_alloc ?_ _));refine blk_put (cs:=#[.int .i64 a0_0,.slice none 0 0,.slice none 0 0]) ?_ 2 _ rfl;(with_reducible repeat (first|refine blk_drewN ?_ _|refine blk_drew ?_|refine blk_alloc ?_ _));refine blk_put (cs:=#[.int .i64 a0_0,.slice none 0 0,.slice none 0 0]) ?_ 1 _ rfl;(with_reducible repeat (first|refine blk_drewN ?_ _|refine blk_drew ?_|refine blk_alloc ?_ _));refine blk_put (cs:=#[.int .i64 0,.slice none 0 0,.slice none 0 0]) ?_ 0 _ rfl;(with_reducible repeat (first|refine blk_drewN ?_ _|refine blk_drew ?_|refine blk_alloc ?_ _));exact BK301.out⟩,⟨by repeat (first|(with_reducible first|exact HB.out|apply below_alloc|apply pw_below_drewN|apply below_drew1|refine below_set ?_ GE286.out|refine below_set ?_ GE287.out|refine below_set ?_ GE301.out)|exact HB.out)⟩⟩
         case round=>
          clear H'
          try clear c1
          try clear c2
          try clear p2
          try clear q2
          try clear hx2
          try clear c3
          try clear p3
          try clear q3
          try clear hx3
          try clear hf3
          try clear c4
          try clear p6
          try clear c7
          try clear c9
          try clear c14
          try clear c17
          try clear c18
          try clear c21
          try clear c21b0
          try clear c21b1
          try clear c22
          try clear c26
          try clear c26b0
          try clear c27
          try clear c27b0
          try clear c28
          try clear c28b0
          try clear p29
          try clear q29
          try clear hx29
          try clear c30
          try clear c30b0
          try clear c31
          try clear c31b0
          try clear p32
          try clear q32
          try clear hx32
          try clear hf32
          try clear c33
          try clear c46
          try clear hcz10_0
          try clear hcz10_1
          try clear hcz10_2
          try clear hcz12_0
          try clear hcz12_1
          try clear hcz12_2
          try clear hcz15_0
          try clear hcz15_1
          try clear hcz15_2
          try clear hcz19_0
          try clear hcz19_1
          try clear hcz19_2
          try clear hcz34_0
          try clear hcz34_1
          try clear hcz34_2
          try clear hfz10_0
          try clear hfz10_1
          try clear hfz10_2
          try clear hfz12_0
          try clear hfz12_1
          try clear hfz12_2
          try clear hfz15_0
          try clear hfz15_1
          try clear hfz15_2
          try clear hfz19_0
          try clear hfz19_1
          try clear hfz19_2
          try clear hfz34_0
          try clear hfz34_1
          try clear hfz34_2
          try clear hx296_0
          try clear hx32_0
          try clear p2
          try clear p296
          try clear p32
          try clear q296
          try clear q32
          obtain ⟨x58_3,x302001_3,u302001,rfl,HA,HK3,HO_6,HO_302001,HO_302002,BK286,BK287,BK301,HB⟩:=hrel
          cases gk with
          | zero=>exact absurd HA.out (by simp [impl_ReorderSteps.l1])
          | succ k3=>
           have H:=HA.out
           clear HA
           simp only [impl_ReorderSteps.l1] at H
           by_cases c48 : x58_3 < (l1.length : Int)
           ·rw [if_pos c48] at H
            have c48b0 : decide (x58_3 < (l1.length : Int)) = true:=decide_eq_true c48
            clear c48
            by_cases c49 : 0 ≤ x58_3
            ·rw [if_pos c49] at H
             have c49b0 : decide (0 ≤ x58_3) = true:=decide_eq_true c49
             clear c49
             by_cases c50 : x58_3 < (l1.length : Int)
             ·rw [if_pos c50] at H
              have c50b0 : decide (x58_3 < (l1.length : Int)) = true:=decide_eq_true c50
              clear c50
              by_cases c51 : 0 ≤ (rd l1 x58_3)
              ·rw [if_pos c51] at H
               have c51b0 : decide (0 ≤ (rd l1 x58_3)) = true:=decide_eq_true c51
               clear c51
               by_cases c52 : (rd l1 x58_3) < (l0_1.length : Int)
               ·rw [if_pos c52] at H
                have c52b0 : decide ((rd l1 x58_3) < (l0_1.length : Int)) = true:=decide_eq_true c52
                clear c52
                by_cases c53 : 0 ≤ ((rd_T73 l0_1 (rd l1 x58_3)).f0)
                ·rw [if_pos c53] at H
                 have c53b0 : decide (0 ≤ ((rd_T73 l0_1 (rd l1 x58_3)).f0)) = true:=decide_eq_true c53
                 clear c53
                 by_cases c54 : ((rd_T73 l0_1 (rd l1 x58_3)).f0) < (x6_2.length : Int)
                 ·rw [if_pos c54] at H
                  have c54b0 : decide (((rd_T73 l0_1 (rd l1 x58_3)).f0) < (x6_2.length : Int)) = true:=decide_eq_true c54
                  clear c54
                  by_cases c55 : 0 ≤ ((rd_T73 l0_1 (rd l1 x58_3)).f1)
                  ·rw [if_pos c55] at H
                   have c55b0 : decide (0 ≤ ((rd_T73 l0_1 (rd l1 x58_3)).f1)) = true:=decide_eq_true c55
                   clear c55
                   by_cases c56 : ((rd_T73 l0_1 (rd l1 x58_3)).f1) < (x6_2.length : Int)
                   ·rw [if_pos c56] at H
                    have c56b0 : decide (((rd_T73 l0_1 (rd l1 x58_3)).f1) < (x6_2.length : Int)) = true:=decide_eq_true c56
                    clear c56
                    obtain ⟨⟨t307,t308⟩,A57,H⟩:=bd H
                    try dsimp only at H
                    by_cases c58 : x302001_3.length < 8796093022208
                    ·rw [if_pos c58] at H
                     have LMc58:=Aside0.mk c58
                     clear c58
                     obtain ⟨y309,hy309⟩ : ∃ y_ : List (S73),y_ = (x302001_3 ++ [(⟨t307,t308⟩ : S73)]):=⟨_,rfl⟩
                     replace H : (impl_ReorderSteps.l1 k3 x6_2 l1 (l1.length : Int) (wrap64 (x58_3 + 1)) a0_0 l0_1 l0_2 a0_0 y309 t298) = some (r1,r2,r3,r4):=by first|(rw [hy309];with_reducible exact H)|(have H2_:=(Option.bind_some _ _).symm.trans H;rw [hy309];with_reducible exact H2_)|(have H2_:=(Option.bind_some _ _).symm.trans H;with_reducible exact H2_)|with_reducible exact H|(rw [hy309];exact H)|exact H
                     have Ny309:=Aside0.mk hy309
                     clear hy309
                     have H':=Aside0.mk H
                     clear H
                     have p302 : 0 ≤ (x58_3 : Int):=of_decide_eq_true az
                     have q302 : x58_3 < (l1.length : Int):=of_decide_eq_true az
                     obtain ⟨ad302,e302,hx302_0⟩:=Kd.at_int HR1.out x58_3 p302 q302
                     cases e302
                     replace hx302_0:=(HB.out.cell (World.block_lt_of_cell? w _ hx302_0)).trans hx302_0
                     replace p302:=eq_true p302
                     replace q302:=eq_true q302
                     try go_wp2
                     have n0_:=Aside0.mk (Kd.R_drew HO_6.out)
                     have n1_:=Aside0.mk (Kd.R_drew HO_302001.out)
                     have n2_:=Aside0.mk (Kd.R_drew HO_302002.out)
                     have n3_:=Aside0.mk (blk_drew BK286.out)
                     have n4_:=Aside0.mk (blk_drew BK287.out)
                     have n5_:=Aside0.mk (blk_drew BK301.out)
                     have n6_:=Aside0.mk (below_drew1 HB.out)
                     clear HO_6
                     clear HO_302001
                     clear HO_302002
                     clear BK286
                     clear BK287
                     clear BK301
                     clear HB
                     have HO_6:=n0_
                     have HO_302001:=n1_
                     have HO_302002:=n2_
                     have BK286:=n3_
                     have BK287:=n4_
                     have BK301:=n5_
                     have HB:=n6_
                     clear n0_ n1_ n2_ n3_ n4_ n5_ n6_
                     have p303 : 0 ≤ ((rd l1 x58_3) : Int):=of_decide_eq_true az
                     have q303 : (rd l1 x58_3) < (l0_1.length : Int):=of_decide_eq_true az
                     obtain ⟨ad303,e303,hx303_0,hx303_1⟩:=at_T73 HR0_1.out (rd l1 x58_3) p303 q303
                     have hw303_1:=hx303_1
                     have hw303_0:=hx303_0
                     cases e303
                     replace hx303_0:=(HB.out.cell (World.block_lt_of_cell? w _ hx303_0)).trans hx303_0
                     replace hx303_1:=(HB.out.cell (World.block_lt_of_cell? w _ hx303_1)).trans hx303_1
                     replace p303:=eq_true p303
                     replace q303:=eq_true q303
                     have p304 : 0 ≤ (((rd_T73 l0_1 (rd l1 x58_3)).f0) : Int):=of_decide_eq_true az
                     have q304 : ((rd_T73 l0_1 (rd l1 x58_3)).f0) < (x6_2.length : Int):=of_decide_eq_true az
                     obtain ⟨ad304,e304,hx304_0⟩:=Kd.at_int (Kd.R_reads' HO_6.out).2.2 ((rd_T73 l0_1 (rd l1 x58_3)).f0) p304 q304
                     cases e304
                     replace p304:=eq_true p304
                     replace q304:=eq_true q304
                     have p305 : 0 ≤ ((rd l1 x58_3) : Int):=of_decide_eq_true az
                     have q305 : (rd l1 x58_3) < (l0_1.length : Int):=of_decide_eq_true az
                     obtain ⟨ad305,e305,hx305_0,hx305_1⟩:=at_T73 HR0_1.out (rd l1 x58_3) p305 q305
                     have hw305_1:=hx305_1
                     have hw305_0:=hx305_0
                     obtain rfl : ad303 = ad305:=(by injection e305)
                     replace hx305_0:=(HB.out.cell (World.block_lt_of_cell? w _ hx305_0)).trans hx305_0
                     replace hx305_1:=(HB.out.cell (World.block_lt_of_cell? w _ hx305_1)).trans hx305_1
                     replace p305:=eq_true p305
                     replace q305:=eq_true q305
                     have p306 : 0 ≤ (((rd_T73 l0_1 (rd l1 x58_3)).f1) : Int):=of_decide_eq_true az
                     have q306 : ((rd_T73 l0_1 (rd l1 x58_3)).f1) < (x6_2.length : Int):=of_decide_eq_true az
                     obtain ⟨ad306,e306,hx306_0⟩:=Kd.at_int (Kd.R_reads' HO_6.out).2.2 ((rd_T73 l0_1 (rd l1 x58_3)).f1) p306 q306
                     obtain rfl : ad304 = ad306:=(by injection e306)
                     replace p306:=eq_true p306
                     replace q306:=eq_true q306
                     refine start_ (n:=25) (S:=fun w'=>w'.cell? ⟨gb301,0,none⟩ = some (.int .i64 a0_0) ∧ w'.cell? ⟨gb301,1,none⟩ = some (u302001) ∧ w'.cell? ⟨gb301,2,none⟩ = some (.slice Ao44 t298.length co44) ∧ w'.cell? ⟨gb286,0,none⟩ = some (.int .i64 a0_0) ∧ w'.cell? ⟨gb286,1,none⟩ = some (.slice (some ad303) l0_1.length c0_1) ∧ w'.cell? ⟨gb286,2,none⟩ = some (.slice A0_2 l0_2.length c0_2) ∧ w'.cell? (ad303.add (((rd l1 x58_3)).toNat * 2)) = some (.int .i64 ((rd_T73 l0_1 (rd l1 x58_3)).f0)) ∧ w'.cell? ⟨(ad303.add (((rd l1 x58_3)).toNat * 2)).block,(ad303.add (((rd l1 x58_3)).toNat * 2)).off + 1,none⟩ = some (.int .i64 ((rd_T73 l0_1 (rd l1 x58_3)).f1)) ∧ w'.cell? (ad304.add (((rd_T73 l0_1 (rd l1 x58_3)).f0)).toNat) = some (.int .i64 (rd x6_2 ((rd_T73 l0_1 (rd l1 x58_3)).f0))) ∧ w'.cell? (ad303.add (((rd l1 x58_3)).toNat * 2)) = some (.int .i64 ((rd_T73 l0_1 (rd l1 x58_3)).f0)) ∧ w'.cell? ⟨(ad303.add (((rd l1 x58_3)).toNat * 2)).block,(ad303.add (((rd l1 x58_3)).toNat * 2)).off + 1,none⟩ = some (.int .i64 ((rd_T73 l0_1 (rd l1 x58_3)).f1)) ∧ w'.cell? (ad304.add (((rd_T73 l0_1 (rd l1 x58_3)).f1)).toNat) = some (.int .i64 (rd x6_2 ((rd_T73 l0_1 (rd l1 x58_3)).f1)))) (ds:=[22,24]) #[false,false,false,false,false,false,false,false,false,false,false,false,false,false,false,false,false,false,false,false,false,false,false,false,false] (by kernel_rfl) rfl rfl ⟨(blk_cell BK301.out 0).trans rfl,(blk_cell BK301.out 1).trans rfl,(blk_cell BK301.out 2).trans rfl,(blk_cell BK286.out 0).trans rfl,(blk_cell BK286.out 1).trans rfl,(blk_cell BK286.out 2).trans rfl,((HB.out.cell (World.block_lt_of_cell? w _ hw303_0)).trans hw303_0),((HB.out.cell (World.block_lt_of_cell? w _ hw303_1)).trans hw303_1),hx304_0,((HB.out.cell (World.block_lt_of_cell? w _ hw305_0)).trans hw305_0),((HB.out.cell (World.block_lt_of_cell? w _ hw305_1)).trans hw305_1),hx306_0⟩ (fun hHeld=>?_);refine with_tabW impl_ReorderSteps.tab13 impl_ReorderSteps.bits13 (fun HT_ HW_=>?_)
                     generalize wr.drew = w59 at HO_6 HO_302001 HO_302002 BK286 BK287 BK301 HB hx303_0 hx303_1 hx304_0 hx305_0 hx305_1 hx306_0 hHeld ⊢
                     refine pure_ (i:=0) (N:=some 62) (v:=?_) (a':=?_) #[true,false,false,false,false,false,false,false,false,false,false,false,false,false,false,false,false,false,false,false,false,false,false,false,false] rfl rfl (any_of HT_.out (by kernel_rfl)) (fun _ _ _ h=>h) (Or.inl ⟨by rfl,?_⟩) ?_ ?_
                     rotate_left
                     ·intro w'
                      go_simp
                      with_reducible rfl
                     rotate_left
                     ·simp only [Act.put,xa,xb,xc,i64_w,i32_w]
                      rfl
                     refine pure_ (i:=2) (N:=some 64) (v:=?_) (a':=?_) #[true,false,true,false,false,false,false,false,false,false,false,false,false,false,false,false,false,false,false,false,false,false,false,false,false] rfl rfl (any_of HT_.out (by kernel_rfl)) (fun _ _ _ h=>h) (Or.inl ⟨by rfl,?_⟩) ?_ ?_
                     rotate_left
                     ·intro w'
                      go_simp
                      with_reducible rfl
                     rotate_left
                     ·simp only [Act.put,xa,xb,xc,i64_w,i32_w]
                      rfl
                     refine pure_ (i:=3) (N:=some 65) (v:=?_) (a':=?_) #[true,false,true,true,false,false,false,false,false,false,false,false,false,false,false,false,false,false,false,false,false,false,false,false,false] rfl rfl (any_of HT_.out (by kernel_rfl)) (fun _ _ _ h=>h) (Or.inl ⟨by rfl,?_⟩) ?_ ?_
                     rotate_left
                     ·intro w'
                      go_simp
                      with_reducible rfl
                     rotate_left
                     ·simp only [Act.put,xa,xb,xc,i64_w,i32_w]
                      rfl
                     refine pure_ (i:=5) (N:=some 67) (v:=?_) (a':=?_) #[true,false,true,true,false,true,false,false,false,false,false,false,false,false,false,false,false,false,false,false,false,false,false,false,false] rfl rfl (any_of HT_.out (by kernel_rfl)) (fun _ _ _ h=>h) (Or.inl ⟨by rfl,?_⟩) ?_ ?_
                     rotate_left
                     ·intro w'
                      go_simp
                      with_reducible rfl
                     rotate_left
                     ·simp only [Act.put,xa,xb,xc,i64_w,i32_w]
                      rfl
                     refine pure_ (i:=11) (N:=some 73) (v:=?_) (a':=?_) #[true,false,true,true,false,true,false,false,false,false,false,true,false,false,false,false,false,false,false,false,false,false,false,false,false] rfl rfl (any_of HT_.out (by kernel_rfl)) (fun _ _ _ h=>h) (Or.inl ⟨by rfl,?_⟩) ?_ ?_
                     rotate_left
                     ·intro w'
                      go_simp
                      with_reducible rfl
                     rotate_left
                     ·simp only [Act.put,xa,xb,xc,i64_w,i32_w]
                      rfl
                     refine pure_ (i:=12) (N:=some 74) (v:=?_) (a':=?_) #[true,false,true,true,false,true,false,false,false,false,false,true,true,false,false,false,false,false,false,false,false,false,false,false,false] rfl rfl (any_of HT_.out (by kernel_rfl)) (fun _ _ _ h=>h) (Or.inl ⟨by rfl,?_⟩) ?_ ?_
                     rotate_left
                     ·intro w'
                      go_simp
                      with_reducible rfl
                     rotate_left
                     ·simp only [Act.put,xa,xb,xc,i64_w,i32_w]
                      rfl
                     refine pure_ (i:=14) (N:=some 76) (v:=?_) (a':=?_) #[true,false,true,true,false,true,false,false,false,false,false,true,true,false,true,false,false,false,false,false,false,false,false,false,false] rfl rfl (any_of HT_.out (by kernel_rfl)) (fun _ _ _ h=>h) (Or.inl ⟨by rfl,?_⟩) ?_ ?_
                     rotate_left
                     ·intro w'
                      go_simp
                      with_reducible rfl
                     rotate_left
                     ·simp only [Act.put,xa,xb,xc,i64_w,i32_w]
                      rfl
                     refine take_ (i:=1) (N:=some 63) (v:=?_) (a':=?_) #[true,true,true,true,false,true,false,false,false,false,false,true,true,false,true,false,false,false,false,false,false,false,false,false,false] rfl rfl (take_ofW HT_.out HW_.out (by kernel_rfl)) (fun _ _ _ h=>h) (Or.inl ⟨by rfl,?_⟩) hHeld ?_ ?_
                     rotate_left
                     ·rintro w' ⟨s0,s1,s2,s3,s4,s5,s6,s7,s8,s9,s10,s11⟩
                      go_simp
                      with_reducible rfl
                     rotate_left
                     ·simp only [Act.put,xa,xb,xc,i64_w,i32_w]
                      rfl
                     refine take_ (i:=4) (N:=some 66) (v:=?_) (a':=?_) #[true,true,true,true,true,true,false,false,false,false,false,true,true,false,true,false,false,false,false,false,false,false,false,false,false] rfl rfl (take_ofW HT_.out HW_.out (by kernel_rfl)) (fun _ _ _ h=>h) (Or.inl ⟨by rfl,?_⟩) hHeld ?_ ?_
                     rotate_left
                     ·rintro w' ⟨s0,s1,s2,s3,s4,s5,s6,s7,s8,s9,s10,s11⟩
                      go_simp
                      with_reducible rfl
                     rotate_left
                     ·simp only [Act.put,xa,xb,xc,i64_w,i32_w]
                      rfl
                     refine pure_ (i:=6) (N:=some 68) (v:=?_) (a':=?_) #[true,true,true,true,true,true,true,false,false,false,false,true,true,false,true,false,false,false,false,false,false,false,false,false,false] rfl rfl (any_of HT_.out (by kernel_rfl)) (fun _ _ _ h=>h) (Or.inl ⟨by rfl,?_⟩) ?_ ?_
                     rotate_left
                     ·intro w'
                      go_simp
                      with_reducible rfl
                     rotate_left
                     ·simp only [Act.put,xa,xb,xc,i64_w,i32_w]
                      rfl
                     refine pure_ (i:=7) (N:=some 69) (v:=?_) (a':=?_) #[true,true,true,true,true,true,true,true,false,false,false,true,true,false,true,false,false,false,false,false,false,false,false,false,false] rfl rfl (any_of HT_.out (by kernel_rfl)) (fun _ _ _ h=>h) (Or.inl ⟨by rfl,?_⟩) ?_ ?_
                     rotate_left
                     ·intro w'
                      go_simp
                      with_reducible rfl
                     rotate_left
                     ·simp only [Act.put,xa,xb,xc,i64_w,i32_w]
                      rfl
                     refine take_ (i:=8) (N:=some 70) (v:=?_) (a':=?_) #[true,true,true,true,true,true,true,true,true,false,false,true,true,false,true,false,false,false,false,false,false,false,false,false,false] rfl rfl (take_ofW HT_.out HW_.out (by kernel_rfl)) (fun _ _ _ h=>h) (Or.inl ⟨by rfl,?_⟩) hHeld ?_ ?_
                     rotate_left
                     ·rintro w' ⟨s0,s1,s2,s3,s4,s5,s6,s7,s8,s9,s10,s11⟩
                      go_simp
                      with_reducible rfl
                     rotate_left
                     ·simp only [Act.put,xa,xb,xc,i64_w,i32_w]
                      rfl
                     refine pure_ (i:=9) (N:=some 71) (v:=?_) (a':=?_) #[true,true,true,true,true,true,true,true,true,true,false,true,true,false,true,false,false,false,false,false,false,false,false,false,false] rfl rfl (any_of HT_.out (by kernel_rfl)) (fun _ _ _ h=>h) (Or.inl ⟨by rfl,?_⟩) ?_ ?_
                     rotate_left
                     ·intro w'
                      go_simp
                      with_reducible rfl
                     rotate_left
                     ·simp only [Act.put,xa,xb,xc,i64_w,i32_w]
                      rfl
                     refine take_ (i:=10) (N:=some 72) (v:=?_) (a':=?_) #[true,true,true,true,true,true,true,true,true,true,true,true,true,false,true,false,false,false,false,false,false,false,false,false,false] rfl rfl (take_ofW HT_.out HW_.out (by kernel_rfl)) (fun _ _ _ h=>h) (Or.inl ⟨by rfl,?_⟩) hHeld ?_ ?_
                     rotate_left
                     ·rintro w' ⟨s0,s1,s2,s3,s4,s5,s6,s7,s8,s9,s10,s11⟩
                      go_simp
                      with_reducible rfl
                     rotate_left
                     ·simp only [Act.put,xa,xb,xc,i64_w,i32_w]
                      rfl
                     refine take_ (i:=13) (N:=some 75) (v:=?_) (a':=?_) #[true,true,true,true,true,true,true,true,true,true,true,true,true,true,true,false,false,false,false,false,false,false,false,false,false] rfl rfl (take_ofW HT_.out HW_.out (by kernel_rfl)) (fun _ _ _ h=>h) (Or.inl ⟨by rfl,?_⟩) hHeld ?_ ?_
                     rotate_left
                     ·rintro w' ⟨s0,s1,s2,s3,s4,s5,s6,s7,s8,s9,s10,s11⟩
                      go_simp
                      with_reducible rfl
                     rotate_left
                     ·simp only [Act.put,xa,xb,xc,i64_w,i32_w]
                      rfl
                     refine pure_ (i:=15) (N:=some 77) (v:=?_) (a':=?_) #[true,true,true,true,true,true,true,true,true,true,true,true,true,true,true,true,false,false,false,false,false,false,false,false,false] rfl rfl (any_of HT_.out (by kernel_rfl)) (fun _ _ _ h=>h) (Or.inl ⟨by rfl,?_⟩) ?_ ?_
                     rotate_left
                     ·intro w'
                      go_simp
                      with_reducible rfl
                     rotate_left
                     ·simp only [Act.put,xa,xb,xc,i64_w,i32_w]
                      rfl
                     refine pure_ (i:=16) (N:=some 78) (v:=?_) (a':=?_) #[true,true,true,true,true,true,true,true,true,true,true,true,true,true,true,true,true,false,false,false,false,false,false,false,false] rfl rfl (any_of HT_.out (by kernel_rfl)) (fun _ _ _ h=>h) (Or.inl ⟨by rfl,?_⟩) ?_ ?_
                     rotate_left
                     ·intro w'
                      go_simp
                      with_reducible rfl
                     rotate_left
                     ·simp only [Act.put,xa,xb,xc,i64_w,i32_w]
                      rfl
                     refine take_ (i:=17) (N:=some 79) (v:=?_) (a':=?_) #[true,true,true,true,true,true,true,true,true,true,true,true,true,true,true,true,true,true,false,false,false,false,false,false,false] rfl rfl (take_ofW HT_.out HW_.out (by kernel_rfl)) (fun _ _ _ h=>h) (Or.inl ⟨by rfl,?_⟩) hHeld ?_ ?_
                     rotate_left
                     ·rintro w' ⟨s0,s1,s2,s3,s4,s5,s6,s7,s8,s9,s10,s11⟩
                      go_simp
                      with_reducible rfl
                     rotate_left
                     ·simp only [Act.put,xa,xb,xc,i64_w,i32_w]
                      rfl
                     refine pure_ (i:=18) (N:=some 80) (v:=?_) (a':=?_) #[true,true,true,true,true,true,true,true,true,true,true,true,true,true,true,true,true,true,true,false,false,false,false,false,false] rfl rfl (any_of HT_.out (by kernel_rfl)) (fun _ _ _ h=>h) (Or.inl ⟨by rfl,?_⟩) ?_ ?_
                     rotate_left
                     ·intro w'
                      go_simp
                      with_reducible rfl
                     rotate_left
                     ·simp only [Act.put,xa,xb,xc,i64_w,i32_w]
                      rfl
                     refine take_ (i:=19) (N:=some 81) (v:=?_) (a':=?_) #[true,true,true,true,true,true,true,true,true,true,true,true,true,true,true,true,true,true,true,true,false,false,false,false,false] rfl rfl (take_ofW HT_.out HW_.out (by kernel_rfl)) (fun _ _ _ h=>h) (Or.inl ⟨by rfl,?_⟩) hHeld ?_ ?_
                     rotate_left
                     ·rintro w' ⟨s0,s1,s2,s3,s4,s5,s6,s7,s8,s9,s10,s11⟩
                      go_simp
                      with_reducible rfl
                     rotate_left
                     ·simp only [Act.put,xa,xb,xc,i64_w,i32_w]
                      rfl
                     refine one_ (i:=20) (N:=some 82) #[true,true,true,true,true,true,true,true,true,true,true,true,true,true,true,true,true,true,true,true,true,false,false,false,false] rfl rfl (one_of HT_.out (by kernel_rfl)) (by decide) (fun K hK=>?_)
                     refine goes_ Try.func65 (by kernel_rfl) rfl #[.int .i64 (rd x6_2 ((rd_T73 l0_1 (rd l1 x58_3)).f0)),.int .i64 (rd x6_2 ((rd_T73 l0_1 (rd l1 x58_3)).f1))] (by rfl) rfl rfl mz ?_
                     with_reducible refine (impl_step.calls (rd x6_2 ((rd_T73 l0_1 (rd l1 x58_3)).f0)) (rd x6_2 ((rd_T73 l0_1 (rd l1 x58_3)).f1)) t307 t308 _ A57.out).mono ?_
                     rintro e w60 ⟨rfl,hb⟩
                     have HS8_:=(hb.cell (World.block_lt_of_cell? _ _ (hHeld.2.2.2.2.2.2.2.2.1))).trans (hHeld.2.2.2.2.2.2.2.2.1)
                     have HS11_:=(hb.cell (World.block_lt_of_cell? _ _ (hHeld.2.2.2.2.2.2.2.2.2.2.2))).trans (hHeld.2.2.2.2.2.2.2.2.2.2.2)
                     refine ⟨_,rfl,?_⟩
                     have n0_:=Aside0.mk (Kd.R_below (rz HO_6.out) hb)
                     have n1_:=Aside0.mk (Kd.R_below (rz HO_302001.out) hb)
                     have n2_:=Aside0.mk (Kd.R_below (rz HO_302002.out) hb)
                     have n3_:=Aside0.mk (kb BK286.out hb)
                     have n4_:=Aside0.mk (kb BK287.out hb)
                     have n5_:=Aside0.mk (kb BK301.out hb)
                     have n6_:=Aside0.mk (below_step bs hb)
                     clear HO_6
                     clear HO_302001
                     clear HO_302002
                     clear BK286
                     clear BK287
                     clear BK301
                     clear HB
                     have HO_6:=n0_
                     have HO_302001:=n1_
                     have HO_302002:=n2_
                     have BK286:=n3_
                     have BK287:=n4_
                     have BK301:=n5_
                     have HB:=n6_
                     clear n0_ n1_ n2_ n3_ n4_ n5_ n6_
                     (try clear hb)
                     refine hK.out _ _ ⟨(blk_cell BK301.out 0).trans rfl,(blk_cell BK301.out 1).trans rfl,(blk_cell BK301.out 2).trans rfl,(blk_cell BK286.out 0).trans rfl,(blk_cell BK286.out 1).trans rfl,(blk_cell BK286.out 2).trans rfl,((HB.out.cell (World.block_lt_of_cell? w _ hw303_0)).trans hw303_0),((HB.out.cell (World.block_lt_of_cell? w _ hw303_1)).trans hw303_1),HS8_,((HB.out.cell (World.block_lt_of_cell? w _ hw305_0)).trans hw305_0),((HB.out.cell (World.block_lt_of_cell? w _ hw305_1)).trans hw305_1),HS11_⟩ (fun hHeld=>?_)
                     clear hK K
                     refine norm_ (a':=?_) ?_ ?_
                     rotate_left
                     ·show Act.put _ (some 82) _ = _
                      simp only [Act.put,xa,xb,xc,i64_w,i32_w]
                      rfl
                     refine one_ (i:=21) (N:=some 83) #[true,true,true,true,true,true,true,true,true,true,true,true,true,true,true,true,true,true,true,true,true,true,false,false,false] rfl rfl (one_of HT_.out (by kernel_rfl)) (by decide) (fun K hK=>?_)
                     refine value_ (w1:=?_) (v:=?_) (by rfl) rfl ?_ ?_
                     rotate_left 2
                     ·go_simp
                      constructor
                      ·rfl
                      ·rfl
                     refine hK.out _ _ ⟨(blk_cell (blk_alloc BK301.out _) 0).trans rfl,(blk_cell (blk_alloc BK301.out _) 1).trans rfl,(blk_cell (blk_alloc BK301.out _) 2).trans rfl,(blk_cell (blk_alloc BK286.out _) 0).trans rfl,(blk_cell (blk_alloc BK286.out _) 1).trans rfl,(blk_cell (blk_alloc BK286.out _) 2).trans rfl,(World.cell?_alloc_lt _ _ _ (World.block_lt_of_cell? _ _ (((HB.out.cell (World.block_lt_of_cell? w _ hw303_0)).trans hw303_0)))).trans (((HB.out.cell (World.block_lt_of_cell? w _ hw303_0)).trans hw303_0)),(World.cell?_alloc_lt _ _ _ (World.block_lt_of_cell? _ _ (((HB.out.cell (World.block_lt_of_cell? w _ hw303_1)).trans hw303_1)))).trans (((HB.out.cell (World.block_lt_of_cell? w _ hw303_1)).trans hw303_1)),(World.cell?_alloc_lt _ _ _ (World.block_lt_of_cell? _ _ (hHeld.2.2.2.2.2.2.2.2.1))).trans (hHeld.2.2.2.2.2.2.2.2.1),(World.cell?_alloc_lt _ _ _ (World.block_lt_of_cell? _ _ (((HB.out.cell (World.block_lt_of_cell? w _ hw305_0)).trans hw305_0)))).trans (((HB.out.cell (World.block_lt_of_cell? w _ hw305_0)).trans hw305_0)),(World.cell?_alloc_lt _ _ _ (World.block_lt_of_cell? _ _ (((HB.out.cell (World.block_lt_of_cell? w _ hw305_1)).trans hw305_1)))).trans (((HB.out.cell (World.block_lt_of_cell? w _ hw305_1)).trans hw305_1)),(World.cell?_alloc_lt _ _ _ (World.block_lt_of_cell? _ _ (hHeld.2.2.2.2.2.2.2.2.2.2.2))).trans (hHeld.2.2.2.2.2.2.2.2.2.2.2)⟩ (fun hHeld=>?_)
                     clear hK K
                     refine norm_ (a':=?_) ?_ ?_
                     rotate_left
                     ·show Act.put _ (some 83) _ = _
                      simp only [Act.put,xa,xb,xc,i64_w,i32_w]
                      rfl
                     refine last_ (i:=22) (N:=some 84) #[true,true,true,true,true,true,true,true,true,true,true,true,true,true,true,true,true,true,true,true,true,true,true,false,false] rfl rfl (one_of HT_.out (by kernel_rfl)) (by decide) (fun K hK=>?_)
                     refine Kd.R_append_step k73 (w0:=w) w.heap.size (by rfl) (.tmp 63) (.tmp 83) 27 73 (.agg #[(.int .i64 0),(.int .i64 0)]) 16 rfl Try.underlying27 info73 rfl (by decide) (by omega) u302001 x302001_3 (⟨t307,t308⟩ : S73) [.int .i64 t307,.int .i64 t308] (fun _=>True) (fun _=>False) rfl rfl ?aP (fun _ hk=>hk.elim) ?aF ?aO ?aB ?aS ?aL ?_
                     (case aP=>exact k73_mkM _ _ _ (⟨t307,t308⟩ : S73))
                     (case aB=>exact bs)
                     (case aF=>exact (fun _ _=>trivial))
                     (case aO=>exact (rz HO_302001.out))
                     (case aS=>exact (below_size bs))
                     (case aL=>have:=LMc58.out;omega)
                     intro v310 w61 ho hb hg hat
                     rw [← Ny309.out] at ho
                     have n0_:=Aside0.mk (Kd.R_over' (rz HO_6.out) (Kd.R_typed (rz HO_302001.out)) (by decide) hg)
                     have n1_:=Aside0.mk (Kd.R_over' (rz HO_302002.out) (Kd.R_typed (rz HO_302001.out)) (by decide) hg)
                     have n2_:=Aside0.mk (blk_grown (g:=gb286) (o:=.cells #[.int .i64 a0_0,.slice (some ad303) l0_1.length c0_1,.slice A0_2 l0_2.length c0_2] 29 (0,0)) (kz BK286.out) hg (Kd.R_ne HO_302001.out BK286.out (by decide)))
                     have n3_:=Aside0.mk (blk_grown (g:=gb287) (o:=.cells #[.int .i64 0,.slice none 0 0,.slice none 0 0] 29 (0,0)) (kz BK287.out) hg (Kd.R_ne HO_302001.out BK287.out (by decide)))
                     have n4_:=Aside0.mk (blk_grown (g:=gb301) (o:=.cells #[.int .i64 a0_0,u302001,.slice Ao44 t298.length co44] 29 (0,0)) (kz BK301.out) hg (Kd.R_ne HO_302001.out BK301.out (by decide)))
                     have n5_:=Aside0.mk (hb)
                     have n6_:=Aside0.mk (ho)
                     clear HO_6
                     clear HO_302002
                     clear BK286
                     clear BK287
                     clear BK301
                     clear HB
                     clear HO_302001
                     have HO_6:=n0_
                     have HO_302002:=n1_
                     have BK286:=n2_
                     have BK287:=n3_
                     have BK301:=n4_
                     have HB:=n5_
                     have HO311:=n6_
                     clear n0_ n1_ n2_ n3_ n4_ n5_ n6_
                     clear ho hb hg hat
                     obtain ⟨Ao62,co62,eo62⟩:=Kd.R_slice HO311.out
                     (first|subst eo62|(injection eo62 with f1_ f2_ f3_;have f4_:=f1_.symm;have f5_:=f3_.symm;clear f1_ f2_ f3_;subst f4_;subst f5_))
                     refine hK.out _ _ ?_
                     clear hK K
                     refine norm_ (a':=?_) ?_ ?_
                     rotate_left
                     ·show Act.put _ (some 84) _ = _
                      simp only [Act.put,xa,xb,xc,i64_w,i32_w]
                      rfl
                     refine pure_ (i:=23) (N:=some 85) (v:=?_) (a':=?_) #[true,true,true,true,true,true,true,true,true,true,true,true,true,true,true,true,true,true,true,true,true,true,true,true,false] rfl rfl (any_of HT_.out (by kernel_rfl)) (fun _ _ _ h=>h) (Or.inl ⟨by rfl,?_⟩) ?_ ?_
                     rotate_left
                     ·intro w'
                      go_simp
                      with_reducible rfl
                     rotate_left
                     ·simp only [Act.put,xa,xb,xc,i64_w,i32_w]
                      rfl
                     refine last_ (i:=24) (N:=none) #[true,true,true,true,true,true,true,true,true,true,true,true,true,true,true,true,true,true,true,true,true,true,true,true,true] rfl rfl (one_of HT_.out (by kernel_rfl)) (by decide) (fun K hK=>?_)
                     have hs63 : w61.cell? ⟨gb301,1,none⟩ = some (u302001):=(blk_cell BK301.out 1).trans rfl
                     have hfs63:=blk_frozen BK301.out 1
                     have hns63_0:=NB286_301.out
                     have hns63_1:=NB287_301.out
                     have hms63_0:=NB301_286.out
                     have hms63_1:=NB301_287.out
                     refine skip_ (w1:=?_) (by rfl) rfl ?_ ?_
                     rotate_left
                     ·go_simp
                      rfl
                     refine hK.out _ _ ?_
                     clear hK K
                     refine done_ (done_of HT_.out (by kernel_rfl)) ?_
                     try go_wp2
                     go_roundg k3
                     case measure=>have:=HJ2.out;have:=HK2.out;have:=HK3.out;omega
                     case rel=>exact ⟨(wrap64 (x58_3 + 1)),(y309),(.slice Ao62 y309.length co62),fz,H',⟨by have:=HJ2.out;have:=HK2.out;have:=HK3.out;omega⟩,⟨by (with_reducible repeat (first|apply Kd.R_alloc|apply Kd.R_drewN|apply Kd.R_drew));exact Kd.R_mono (Kd.R_far (p:=⟨gb301,1,none⟩) (Kd.R_types HO_6.out BK301.out (by decide)) (fun _ hk=>hk.2) (.slice Ao62 y309.length co62)) (fun _ hk=>hk.1)⟩,⟨by (with_reducible repeat (first|apply Kd.R_alloc|apply Kd.R_drewN|apply Kd.R_drew));exact Kd.R_mono (Kd.R_far (p:=⟨gb301,1,none⟩) (Kd.R_types HO311.out BK301.out (by decide)) (fun _ hk=>hk.2) (.slice Ao62 y309.length co62)) (fun _ hk=>trivial)⟩,⟨by (with_reducible repeat (first|apply Kd.R_alloc|apply Kd.R_drewN|apply Kd.R_drew));exact Kd.R_mono (Kd.R_far (p:=⟨gb301,1,none⟩) (Kd.R_types HO_302002.out BK301.out (by decide)) (fun _ hk=>hk.2) (.slice Ao62 y309.length co62)) (fun _ hk=>hk.1)⟩,⟨by (with_reducible repeat (first|refine blk_drewN ?_ _|refine blk_drew ?_|refine blk_alloc ?_ _));refine blk_far ?_ NB286_301.out _;(with_reducible repeat (first|refine blk_drewN ?_ _|refine blk_drew ?_|refine blk_alloc ?_ _));exact BK286.out⟩,⟨by (with_reducible repeat (first|refine blk_drewN ?_ _|refine blk_drew ?_|refine blk_alloc ?_ _));refine blk_far ?_ NB287_301.out _;(with_reducible repeat (first|refine blk_drewN ?_ _|refine blk_drew ?_|refine blk_alloc ?_ _));exact BK287.out⟩,⟨by (with_reducible repeat (first|refine blk_drewN ?_ _|refine blk_drew ?_|refine blk_alloc ?_ _));refine blk_put (cs:=#[.int .i64 a0_0,u302001,.slice Ao44 t298.length co44]) ?_ 1 _ rfl;(with_reducible repeat (first|refine blk_drewN ?_ _|refine blk_drew ?_|refine blk_alloc ?_ _));exact BK301.out⟩,⟨by repeat (first|(with_reducible first|exact HB.out|apply below_alloc|apply pw_below_drewN|apply below_drew1|refine below_set ?_ GE286.out|refine below_set ?_ GE287.out|refine below_set ?_ GE301.out)|exact HB.out)⟩⟩
                    ·rw [if_neg c58] at H
                     exact absurd H (by simp)
                   ·rw [if_neg c56] at H
                    exact absurd H (by simp)
                  ·rw [if_neg c55] at H
                   exact absurd H (by simp)
                 ·rw [if_neg c54] at H
                  exact absurd H (by simp)
                ·rw [if_neg c53] at H
                 exact absurd H (by simp)
               ·rw [if_neg c52] at H
                exact absurd H (by simp)
              ·rw [if_neg c51] at H
               exact absurd H (by simp)
             ·rw [if_neg c50] at H
              exact absurd H (by simp)
            ·rw [if_neg c49] at H
             exact absurd H (by simp)
           ·rw [if_neg c48] at H
            have c48b0 : decide (x58_3 < (l1.length : Int)) = false:=decide_eq_false c48
            clear c48
            obtain ⟨⟨t312,t313,t316,t319⟩,A64,H⟩:=bd H
            try dsimp only at H
            simp only [Option.some.injEq,Prod.mk.injEq] at H
            obtain ⟨rfl,rfl,rfl,rfl⟩:=H
            have hnb65:=NB301_286.out
            have hnc65:=NB286_301.out
            have hnb66:=NB301_287.out
            have hnc66:=NB287_301.out
            have hcz67_0 : wr.cell? ⟨gb301,0,none⟩ = some (.int .i64 a0_0):=(blk_cell BK301.out 0).trans rfl
            have hcz67_1 : wr.cell? ⟨gb301,1,none⟩ = some (u302001):=(blk_cell BK301.out 1).trans rfl
            have hcz67_2 : wr.cell? ⟨gb301,2,none⟩ = some (.slice Ao44 t298.length co44):=(blk_cell BK301.out 2).trans rfl
            have hfz67_0:=blk_frozen BK301.out 0
            have hfz67_1:=blk_frozen BK301.out 1
            have hfz67_2:=blk_frozen BK301.out 2
            obtain ⟨Ao68,co68,eo68⟩:=Kd.R_slice HO_302001.out
            subst eo68
            go_wp2_with (first|((with_reducible refine gate_callee (f:=49) rfl ?_);refine goesL_ (some 88) rfl rfl Try.func49 (by kernel_rfl) rfl #[.agg #[.int .i64 a0_0,.slice Ao68 x302001_3.length co68,.slice Ao44 t298.length co44]] rfl mz ?_;(with_reducible refine (impl_told.calls k3 a0_0 (fun k_=>some k_ = (.slice Ao68 x302001_3.length co68 : Value).ownBlock) (.slice Ao68 x302001_3.length co68) x302001_3 (fun k_=>some k_ = (.slice Ao44 t298.length co44 : Value).ownBlock) (.slice Ao44 t298.length co44) t298 t312 t313 t316 t319 w _ ?side1 ?side2 ?side3 A64.out).mono ?_);(case side1=>repeat (first|(with_reducible first|exact HB.out|apply below_alloc|apply pw_below_drewN|apply below_drew1|refine below_set ?_ GE286.out|refine below_set ?_ GE287.out|refine below_set ?_ GE301.out)|exact HB.out));(case side2=>exact Kd.R_tight rfl HO_302001.out);(case side3=>exact Kd.R_tight rfl HO_302002.out);rintro e w69 ⟨v314,v317,rfl,ho0,ho1,hb,hkp⟩;refine ⟨_,rfl,?_⟩;have n0_:=Aside0.mk (Kd.R_mono (ok':=fun k_=>some k_ ≠ (v317 : Value).ownBlock) (Kd.R_keptB ((Kd.R_apart' HO_6.out (Kd.R_typed HO_302001.out) (by decide))) hkp (fun k_ hk_ hs_=>Or.elim hs_ (fun e_=>(hk_.2) e_) (fun e_=>(hk_.1) e_))) (fun k_ hk_=>fun e_=>Or.elim (ho1.1 k_ e_.symm) (fun hs_=>hk_.2.1 hs_) (fun hn_=>Nat.not_le.2 hk_.2.2 hn_)));have n1_:=Aside0.mk (blk_kept (kz BK286.out) hkp (fun hs_=>Or.elim hs_ (fun e_=>(fun e_=>(Kd.R_ne HO_302001.out BK286.out (by decide)) e_) e_) (fun e_=>(fun e_=>(Kd.R_ne HO_302002.out BK286.out (by decide)) e_) e_)));have n2_:=Aside0.mk (blk_kept (kz BK287.out) hkp (fun hs_=>Or.elim hs_ (fun e_=>(fun e_=>(Kd.R_ne HO_302001.out BK287.out (by decide)) e_) e_) (fun e_=>(fun e_=>(Kd.R_ne HO_302002.out BK287.out (by decide)) e_) e_)));have n3_:=Aside0.mk (blk_kept (kz BK301.out) hkp (fun hs_=>Or.elim hs_ (fun e_=>(fun e_=>(Kd.R_ne HO_302001.out BK301.out (by decide)) e_) e_) (fun e_=>(fun e_=>(Kd.R_ne HO_302002.out BK301.out (by decide)) e_) e_)));have n4_:=Aside0.mk (Kd.R_mono (ok':=fun k_=>True) ho0 (fun k_ hk_=>trivial));have n5_:=Aside0.mk (Kd.R_mono (ok':=fun k_=>some k_ ≠ (.slice Ao38 x6_2.length co38 : Value).ownBlock) ho1 (fun k_ hk_=>Or.elim hk_ (fun hs_=>Or.elim hs_ (fun hs_=>fun e_=>((((Kd.R_apart' HO_6.out (Kd.R_typed HO_302001.out) (by decide))).1 k_ e_.symm).2) hs_) (fun hs_=>fun e_=>((((Kd.R_apart' HO_6.out (Kd.R_typed HO_302001.out) (by decide))).1 k_ e_.symm).1) hs_)) (fun hn_=>(Kd.fresh' (Kd.R_lt (rz HO_6.out)) k_ hn_))));have n6_:=Aside0.mk (hb);clear HO_6 BK286 BK287 BK301 HB HO_302001 HO_302002;have HO_6:=n0_;have BK286:=n1_;have BK287:=n2_;have BK301:=n3_;have HO315:=n4_;have HO318:=n5_;have HB:=n6_;clear n0_ n1_ n2_ n3_ n4_ n5_ n6_;(try clear hb);(try clear hkp);(try clear ho0);(try clear ho1);have hnb70:=NB287_286.out;have hnc70:=NB286_287.out;have hcz71_0 : w69.cell? ⟨gb287,0,none⟩ = some (.int .i64 0):=(blk_cell BK287.out 0).trans rfl;have hcz71_1 : w69.cell? ⟨gb287,1,none⟩ = some (.slice none 0 0):=(blk_cell BK287.out 1).trans rfl;have hcz71_2 : w69.cell? ⟨gb287,2,none⟩ = some (.slice none 0 0):=(blk_cell BK287.out 2).trans rfl;have hfz71_0:=blk_frozen BK287.out 0;have hfz71_1:=blk_frozen BK287.out 1;have hfz71_2:=blk_frozen BK287.out 2;obtain ⟨Ao72,co72,eo72⟩:=Kd.R_slice HO315.out;subst eo72;obtain ⟨Ao73,co73,eo73⟩:=Kd.R_slice HO318.out;subst eo73))
            refine bodyPost_ret (results_ct rfl _ _ gb287 29 #[.int .i64 t312,.slice Ao72 t313.length co72,.slice Ao73 t316.length co73] (0,0) _ rfl (by (with_reducible repeat (first|refine blk_drewN ?_ _|refine blk_drew ?_|refine blk_alloc ?_ _));refine blk_put (cs:=#[.int .i64 t312,.slice Ao72 t313.length co72,.slice none 0 0]) ?_ 2 _ rfl;(with_reducible repeat (first|refine blk_drewN ?_ _|refine blk_drew ?_|refine blk_alloc ?_ _));refine blk_put (cs:=#[.int .i64 t312,.slice none 0 0,.slice none 0 0]) ?_ 1 _ rfl;(with_reducible repeat (first|refine blk_drewN ?_ _|refine blk_drew ?_|refine blk_alloc ?_ _));refine blk_put (cs:=#[.int .i64 0,.slice none 0 0,.slice none 0 0]) ?_ 0 _ rfl;(with_reducible repeat (first|refine blk_drewN ?_ _|refine blk_drew ?_|refine blk_alloc ?_ _));exact BK287.out) Try.underlying29 rfl (by kernel_rfl)) rfl ?_
            exact ⟨_,_,by first|rfl|(simp [errW_none,errW_some] <;> rfl)|(simp [*,errW_none,errW_some] <;> rfl),by (with_reducible repeat (first|apply Kd.R_alloc|apply Kd.R_drewN|apply Kd.R_drew));exact Kd.R_mono (Kd.R_far (p:=⟨gb287,2,none⟩) (Kd.R_far (p:=⟨gb287,1,none⟩) (Kd.R_far (p:=⟨gb287,0,none⟩) (Kd.R_types HO315.out BK287.out (by decide)) (fun _ hk=>hk.2) (.int .i64 t312)) (fun _ hk=>hk.2) (.slice Ao72 t313.length co72)) (fun _ hk=>hk.2) (.slice Ao73 t316.length co73)) (fun _ hk=>trivial),by (with_reducible repeat (first|apply Kd.R_alloc|apply Kd.R_drewN|apply Kd.R_drew));exact Kd.R_mono (Kd.R_far (p:=⟨gb287,2,none⟩) (Kd.R_far (p:=⟨gb287,1,none⟩) (Kd.R_far (p:=⟨gb287,0,none⟩) (Kd.R_types HO318.out BK287.out (by decide)) (fun _ hk=>hk.2) (.int .i64 t312)) (fun _ hk=>hk.2) (.slice Ao72 t313.length co72)) (fun _ hk=>hk.2) (.slice Ao73 t316.length co73)) (fun _ hk=>trivial),by repeat (first|(with_reducible first|exact HB.out|apply below_alloc|apply pw_below_drewN|apply below_drew1|refine below_set ?_ GE286.out|refine below_set ?_ GE287.out|refine below_set ?_ GE301.out)|exact HB.out)⟩
     ·rw [if_neg c22] at H
      exact absurd H (by simp)
    ·rw [if_neg c21] at H
     exact absurd H (by simp)
end Go.Proofs.Ytdcdaoancmpbeaa.MFnExactReorderSteps
--sq
