import Derived.Test.YtdcdaoancmpbeaaMFnExactReorderStepsx0
import Derived.Test.YtdcdaoancmpbeaaMFnExactReorderStepsx10
import Derived.Test.YtdcdaoancmpbeaaMFnExactReorderStepsx1
import Derived.Test.YtdcdaoancmpbeaaMFnExactReorderStepsx2
import Derived.Test.YtdcdaoancmpbeaaMFnExactReorderStepsx3
import Derived.Test.YtdcdaoancmpbeaaMFnExactReorderStepsx4
import Derived.Test.YtdcdaoancmpbeaaMFnExactReorderStepsx5
import Derived.Test.YtdcdaoancmpbeaaMFnExactReorderStepsx6
import Derived.Test.YtdcdaoancmpbeaaMFnExactReorderStepsx7
import Derived.Test.YtdcdaoancmpbeaaMFnExactReorderStepsx8
import Derived.Test.YtdcdaoancmpbeaaMFnExactReorderStepsx9
namespace Go.Proofs.Ytdcdaoancmpbeaa.MFnExactReorderSteps
open Go.RowKit Go.Proofs.YtdcdaoancmpbeaaW.PrintWords Go.Proofs.YtdcdaoancmpbeaaW.PrintLast Go.Proofs.YtdcdaoancmpbeaaW.PrintMore Go.Proofs.YtdcdaoancmpbeaaV Go.Proofs.YtdcdaoancmpbeaaZ
attribute [local go_sem] max2_int min2_int max_two min_two max_three min_three max_four min_four   -- for this text's walks alone
set_option linter.unusedVariables false
set_option linter.unusedSimpArgs false
/-! ### slices_AppendSeq_int_int: function 127 -/
section
open Go.Shelf Go.Proofs.YtdcdaoancmpbeaaVI
attribute [local go_sem] Oper.semAt_some
def slices_AppendSeq_int_int.vals (fa : Nat → Int) {len : Nat} (pre : List (Fin len)) : List Value:=pre.map fun x=>.int .i64 (fa x.1)
def slices_AppendSeq_int_int.St (w0 W : World) (B n : Nat) (fa : Nat → Int) {len : Nat} (pre : List (Fin len)) : Prop:=
 ∃ v,Boxed W B 23 v ∧ W.ownsRow w0.heap.size 3 1 v pre.length (slices_AppendSeq_int_int.vals fa pre) ∧ Below w0.heap.size w0 W ∧ n ≤ W.heap.size
theorem slices_AppendSeq_int_int.inf : (Try.prog.info? 3).map (fun i=>(i.zero,i.size,i.bytes)) = some (some (.int .i64 0),1,8):=by kernel_rfl
set_option maxHeartbeats 2000000 in
set_option maxRecDepth 100000 in
theorem slices_AppendSeq_int_int.run (w : World) (Bs : Nat) (A : Option Addr) (len cap : Nat) (fa : Nat → Int) (hl : len ≤ 1000000000) (hBs : Boxed w Bs 23 (.slice A len cap))
  (hc : 0 < len → ∃ ad,A = some ad ∧ ad.block < w.heap.size ∧ ∀ j,j < len → w.cell? (ad.add j) = some (.int .i64 (fa j))) :
  Calls Try.prog 127 #[.slice none 0 0,.func (.func 122) #[] #[.pointer (some ⟨Bs,0,none⟩)]] w fun e w'=>∃ v,e = .returned v ∧ w'.ownsRow w.heap.size 3 1 v len ((List.range len).map fun j=>.int .i64 (fa j)) ∧ Below w.heap.size w w':=by
 obtain ⟨i0,hi,hz0,hz1,hz2⟩:=info_parts slices_AppendSeq_int_int.inf
 have HC:=Aside0.mk hc
 have HBS:=Aside0.mk hBs
 have HBLT:=Aside0.mk hBs.lt
 clear hc hBs
 refine (callsIn_wide (n:=8)).1 (callsIn_of_wp_marks Try.func127 rfl trivial ?_ rfl)
 refine wpIn_wide.2 ?_
 simp only [Try.ntmps127,List.size_toArray,List.length_cons,List.length_nil,Nat.reduceAdd,Nat.reduceSub,Array.replicate_succ,Array.replicate_zero,List.push_toArray,List.append_toArray,List.nil_append,List.cons_append]
 go_wp2_with (first|((with_reducible refine gate_dst (N:=2) rfl ?_);refine box_event ?hg (N:=2) ?hd (cs:=#[.slice none 0 0]) (t:=23) ?hr ?_;(case hd=>rfl);(case hg=>rfl);(case hr=>first|(go_simp;done)|(go_simp;rfl));intro B hg w1 hbox hb1;have HX:=Aside0.mk (show Boxed w1 B 23 _ from hbox);have HB1:=Aside0.mk hb1;have HG:=Aside0.mk hg;clear hb1 hbox hg))
 have hle : w.heap.size ≤ w1.heap.size:=HB1.out.size
 have hwB : w.heap.size ≤ B:=by rw [HG.out];simp
 have hB1 : B < w1.heap.size:=HX.out.lt
 refine (wpIn_wide (n:=8)).1 ?_
 refine wpIn_rangeFunc_ownH rfl (by decide) (gf:=122) (lb:=#[.pointer (some ⟨Bs,0,none⟩)]) rfl trivial (enters_of Try.func122 (by kernel_rfl) rfl)
  (val_stops_f111 Fence.wide 7 trivial rfl (by decide) Bs A len cap fa (by omega) w1 ((HB1.out.block Bs HBLT.out).trans HBS.out) ?cells)
  (fun h k=>Keeps.trans h k) ?hKb (Below.refl _ _) (fun _=>rfl)
  (fun pre W=>slices_AppendSeq_int_int.St w W B w1.heap.size fa pre)
  (fun _ _ _=>False) ?hI ?hIx ⟨.slice none 0 0,HX.out,World.ownsRow_nil _ _ _ _,HB1.out,Nat.le_refl _⟩
  (fun x a' _=>a' = { tmps:=#[Value.slice none 0 0,Value.func (Fn.func 122) #[] #[Value.pointer (some { block:=Bs,off:=0 })],
     Value.pointer (some { block:=B,off:=0 }),undef,Value.slice none 0 0,Value.int IntKind.i64 (fa x.1),
     Value.func (Fn.func 122) #[] #[Value.pointer (some { block:=Bs,off:=0 })],Value.int IntKind.i64 (fa x.1),undef,undef,undef,undef,undef],defers:=[] })
  ?hAx ?assign ?body ?done ?stop
 case cells=>
  intro hp
  obtain ⟨ad,e,h1,h2⟩:=HC.out hp
  exact ⟨ad,e,Nat.lt_of_lt_of_le h1 hle,fun j hj=>(HB1.out.cell (p:=ad.add j) (by show (ad.add j).block < _;rw [add_block];exact h1)).trans (h2 j hj)⟩
 case hKb=>
  intro W ll o o' hll ho h1 h2 i hi
  refine World.putObj_heap_other ?_
  have:=HBLT.out
  rcases hi with rfl|⟨hp,ad',ea,rfl⟩
  ·omega
  ·obtain ⟨ad,e,h3,_⟩:=HC.out hp
   rw [e] at ea
   cases ea
   omega
 case hI=>
  intro s X Y row hs hg hr
  obtain ⟨v,hb,ho,hbl,hz⟩:=hs
  refine ⟨v,hb.kept hg (fun e=>?_),ho.kept hg ?_,hbl.grown hg hbl.size (fun r e=>Nat.le_trans hle (hr r e).1),Nat.le_trans hz hg.size⟩
  ·obtain ⟨_,o,ho',hc⟩:=hr B e.symm
   rw [show X.heap[B]? = _ from hb] at ho'
   cases ho'
   cases hc
  ·rcases ho.2 with ⟨rfl,_⟩|⟨g,cap',cur,rfl,_,hgb,_⟩
   ·exact .inl rfl
   ·refine .inr fun e'=>?_
    obtain ⟨_,o,ho',hc⟩:=hr g e'.symm
    rw [hgb] at ho'
    cases ho'
    cases hc
 case hIx=>
  intro c s X Y row hs
  cases hs
 case hAx=>
  intro x a' s X Y row hs hg hr
  exact hs
 case assign=>
  rintro ll pre x W K hi2 hK
  gi_wp2
  exact hK _ _ (KeepsFrom.refl _ _) (fun i hi=>rfl) hi2 rfl
 case body=>
  rintro ll pre x a' W hll hrec ⟨v,hb,ho,hbl,hz⟩ rfl hlt
  have c2:=hb.cell
  have f2:=hb.frozen
  have HBX:=Aside0.mk hb
  have HOW:=Aside0.mk ho
  have HBL:=Aside0.mk hbl
  have hws : w.heap.size ≤ W.heap.size:=hbl.size
  clear hb ho hbl hrec
  gi_wp2_with (first
   | (gi_at_builtin;refine wpListIn_append_own _ rfl _ _ 23 rfl w.heap.size 3 i0 (.int .i64 0) 1 8 Try.underlying23 hi hz0 hz1 hz2 rfl (by decide) _ _ _ rfl (HOW.out.alloc _) ⟨W.heap.size,0,none⟩ 1 1 [.int .i64 (fa x.1)] rfl rfl (cell_one_new _ _ _) (by simp [Value.oneCell']) (by unfold maxLen;omega) (by omega) (by simp;omega) ?_;intro v' w3 hown' hg3 hnil3;obtain ⟨q1,q2,q3,q4,q5⟩:=Boxed.appended (n₀:=w.heap.size) HBX.out (by decide) HOW.out hws hwB hown' hg3;have c3:=q1.cell;have f3:=q1.frozen;have Q2:=Aside0.mk q2;have Q3:=Aside0.mk q3;have Q4:=Aside0.mk q4;have Q5:=Aside0.mk q5;obtain ⟨g',cap',ev'⟩:=ownsRow_succ hown';clear q1 q2 q3 q4 q5 hown' hg3 hnil3;subst ev';go_frame)
   | gi_in)
  refine ⟨Q4.out.from _,fun i hi=>Q5.out.block i ?_,⟨_,Q2.out,?_,HBL.out.trans Q5.out,Nat.le_trans hz Q4.out.size⟩⟩
  ·have:=HBLT.out
   rcases hi with rfl|⟨hp,ad',ea,rfl⟩
   ·omega
   ·obtain ⟨ad,e,h3,_⟩:=HC.out hp
    rw [e] at ea
    cases ea
    omega
  ·have:=Q3.out
   unfold slices_AppendSeq_int_int.vals at this ⊢
   rw [List.map_append,List.length_append]
   exact this
 case done=>
  rintro D xs W hD hxs ⟨v,hb,ho,hbl,hz⟩ hK
  have hxl : xs.length = len:=by have:=congrArg List.length hxs;rwa [List.length_map,List.length_range] at this
  have hvl : slices_AppendSeq_int_int.vals fa xs = (List.range len).map fun j=>Value.int .i64 (fa j):=by unfold slices_AppendSeq_int_int.vals;rw [← hxs,List.map_map];rfl
  rw [hxl,hvl] at ho
  have e2:=hb.cell
  have HKK:=Aside0.mk hK
  have HOW:=Aside0.mk ho
  have HBL:=Aside0.mk hbl
  clear hb ho hbl hK hxl hvl hxs
  go_wp2
  refine ⟨by simp,.inl ⟨_,_,rfl,run_takeDeferred HKK.out,?_⟩⟩
  refine ⟨_,results_tmp rfl _ _ _,?_⟩
  exact ⟨v,rfl,ownsRow_putObj HOW.out _ HKK.out rfl,HBL.out.grown (grownBy_putObj' _ D (.deferred none)) HBL.out.size (fun r e=>by cases e;exact Nat.le_trans hle hD)⟩
 case stop=>
  rintro D c pre W hD hp hx
  cases hx
end
/-! ### impl_isOrder: function 67 -/
def impl_isOrder.sorted (l : List Int) : List Int:=l.mergeSort fun x y=>decide (x ≤ y)
def impl_isOrder.f (k : Nat) (l : List Int) (n : Int) : Option Bool:=if l.length ≤ 1000000000 then (impl_firsts.f k n).bind fun u=>slices_Equal_int_int.f k (impl_isOrder.sorted l) u else none
theorem impl_isOrder.mono : ∀ a0 a1 k,LeO (impl_isOrder.f k a0 a1) (impl_isOrder.f (k + 1) a0 a1):=by
 intro a0 a1 k
 unfold impl_isOrder.f
 repeat' first
   | (with_reducible exact impl_firsts.mono _ _)
   | (with_reducible exact slices_Equal_int_int.mono _ _ _)
   | (with_reducible exact LeO.refl _)
   | (with_reducible exact LeO.none _)
   | (with_reducible refine LeO.ite ?_ ?_)
   | (with_reducible refine LeO.bind ?_ (fun _=>?_))
/-- slices.Sort of a row of the call's own,an empty one too. -/
theorem impl_isOrder.srt1 {base : Nat} {w0 w : World} {v : Value} {l : List Int} (hB : Below base w0 w) (ho : Kd.R (Kd.int .i64) 3 w base (fun _=>True) v l) (hs : l.length ≤ 1000000000) :
  Calls Try.prog 112 #[v] w fun e w'=>e = .returned (.tuple #[]) ∧ Kd.R (Kd.int .i64) 3 w' base (fun _=>True) v (impl_isOrder.sorted l) ∧ Below base w0 w':=by
 by_cases hp : 0 < l.length
 ·exact Go.Proofs.YtdcdaoancmpbeaaS.sort_f112 hB ho hp (by omega)
 ·obtain rfl : l = []:=List.eq_nil_of_length_eq_zero (by omega)
  obtain ⟨A,c,rfl⟩:=Kd.R_slice ho
  refine (Go.Proofs.AnyM.slices_Sort_int_none Go.Proofs.YtdcdaoancmpbeaaL.lay_sort A c w).mono ?_
  rintro e w' ⟨rfl,rfl⟩
  exact ⟨rfl,by rw [show impl_isOrder.sorted [] = [] from by simp [impl_isOrder.sorted]];exact ho,hB⟩
set_option maxHeartbeats 2000000 in
set_option maxRecDepth 100000 in
theorem impl_isOrder.col (w : World) (Bs : Nat) (A : Option Addr) (c : Nat) (l : List Int) (hl : l.length ≤ 1000000000) (hBs : w.heap[Bs]? = some (.cells #[.slice A l.length c] 23 (0,0))) (hr : Kd.C (Kd.int .i64) w A l.length l) :
  Calls Try.prog 121 #[.func (.func 122) #[] #[.pointer (some ⟨Bs,0,none⟩)]] w fun e w'=>∃ v,e = .returned v ∧ Kd.R (Kd.int .i64) 3 w' w.heap.size (fun _=>True) v l ∧ Below w.heap.size w w':=by
 have HRUN:=Aside0.mk (slices_AppendSeq_int_int.run w Bs A l.length c (fun j=>rd l (j : Int)) hl hBs (fun hp=>by
  obtain ⟨ad,e,h0⟩:=Kd.at_int hr 0 (by omega) (by omega)
  refine ⟨ad,e,by have:=World.block_lt_of_cell? _ _ h0;rwa [add_block] at this,fun j hj=>?_⟩
  obtain ⟨ad2,e2,h2⟩:=Kd.at_int hr (j : Int) (by omega) (by omega)
  rw [e] at e2
  cases e2
  rw [Int.toNat_natCast] at h2
  exact h2))
 have hv : (List.range l.length).map (fun j=>Value.int .i64 (rd l ((j : Nat) : Int))) = encs (Value.int .i64) l:=by
  apply List.ext_getElem?
  intro j
  by_cases hj : j < l.length
  ·simp [encs,hj,rd,List.getD]
  ·simp [encs,Nat.le_of_not_lt hj]
 have HV:=Aside0.mk hv
 clear hv hr hBs
 go_enter Try.func121,Try.ntmps121
 go_wp2_with (go_at_call 127;refine HRUN.out.mono ?_;rintro e w1 ⟨v,rfl,ho,hb⟩;have HO:=Aside0.mk ho;have HB:=Aside0.mk hb;clear ho hb)
 go_ret
 refine ⟨v,rfl,?_,HB.out⟩
 have:=HO.out
 rw [HV.out] at this
 exact Kd.R_of_own (enc:=Value.int .i64) (h1:=fun _=>rfl) this (fun _ _=>trivial)
set_option maxHeartbeats 2000000 in
set_option maxRecDepth 100000 in
theorem impl_isOrder.srt (w : World) (Bs : Nat) (A : Option Addr) (c : Nat) (l : List Int) (hl : l.length ≤ 1000000000) (hBs : w.heap[Bs]? = some (.cells #[.slice A l.length c] 23 (0,0))) (hr : Kd.C (Kd.int .i64) w A l.length l) :
  Calls Try.prog 110 #[.func (.func 122) #[] #[.pointer (some ⟨Bs,0,none⟩)]] w fun e w'=>∃ v,e = .returned v ∧ Kd.R (Kd.int .i64) 3 w' w.heap.size (fun _=>True) v (impl_isOrder.sorted l) ∧ Below w.heap.size w w':=by
 have HCOL:=Aside0.mk (impl_isOrder.col w Bs A c l hl hBs hr)
 clear hBs hr
 go_enter Try.func110,Try.ntmps110
 go_wp2_with (first|(go_at_call 121;refine HCOL.out.mono ?_;rintro e w1 ⟨v,rfl,ho,hb⟩;have HO:=Aside0.mk ho;have HB:=Aside0.mk hb;clear ho hb)|(go_at_call 112;refine (impl_isOrder.srt1 HB.out HO.out hl).mono ?_;rintro e w2 ⟨rfl,ho2,hb2⟩;have HO2:=Aside0.mk ho2;have HB2:=Aside0.mk hb2;clear ho2 hb2))
 go_ret
 exact ⟨v,rfl,HO2.out,HB2.out⟩
set_option maxHeartbeats 2000000 in
set_option maxRecDepth 100000 in
theorem impl_isOrder.calls (k : Nat) (A0 : Option Addr) (c0 : Nat) (l0 : List Int) (a1 : Int) (r : Bool) (w : World) (hr0 : Kd.C (Kd.int .i64) w A0 l0.length l0) (hc0 : l0.length ≤ c0) (h : impl_isOrder.f k l0 a1 = some r) :
  Calls Try.prog 67 #[.slice A0 l0.length c0,.int .i64 a1] w fun e w'=>e = .returned (.bool r) ∧ Below w.heap.size w w':=by
 unfold impl_isOrder.f at h
 by_cases hl : l0.length ≤ 1000000000
 ·rw [if_pos hl] at h
  obtain ⟨u,hu,he⟩:=Option.bind_eq_some_iff.1 h
  have HU:=Aside0.mk hu
  have HE:=Aside0.mk he
  have HR:=Aside0.mk hr0
  clear h hu he hr0
  go_enter Try.func67,Try.ntmps67
  go_wp2_with (first
   | (go_at_call 111;refine (Go.Proofs.YtdcdaoancmpbeaaVI.val_f111 w A0 l0.length c0).mono ?_;rintro e w1 ⟨rfl,rfl⟩)
   | (go_at_call 110;refine (impl_isOrder.srt (w.alloc (.cells #[.slice A0 l0.length c0] 23)) w.heap.size A0 c0 l0 hl (blk_new _ _) (Kd.C_alloc HR.out _)).mono ?_;rintro e w2 ⟨v2,rfl,ho2,hb2⟩;have HO2:=Aside0.mk ho2;have HB2:=Aside0.mk (Below.trans (below_alloc (Below.refl w.heap.size w) _) (hb2.mono (by simp)));clear ho2 hb2;obtain ⟨A2,c2,e2⟩:=Kd.R_slice HO2.out;subst e2)
   | (go_at_call 48;refine (impl_firsts.calls k a1 u w2 HU.out).mono ?_;rintro e w3 ⟨v3,rfl,ho3,hb3⟩;have HO3:=Aside0.mk ho3;have HO2b:=Aside0.mk (Kd.R_below HO2.out hb3);have HB3:=Aside0.mk (HB2.out.trans (hb3.mono HB2.out.size));clear ho3 hb3;obtain ⟨A3,c3,e3⟩:=Kd.R_slice HO3.out;subst e3)
   | (go_at_call 109;refine (slices_Equal_int_int.calls k A2 c2 _ A3 c3 u r w3 (Kd.R_reads' HO2b.out).2.2 (Kd.R_reads' HO2b.out).2.1 (Kd.R_reads' HO3.out).2.2 (Kd.R_reads' HO3.out).2.1 HE.out).mono ?_;rintro e w4 ⟨rfl,⟨nd,rfl⟩⟩))
  go_ret
  exact ⟨rfl,by repeat (first|exact HB3.out|(with_reducible first|apply below_alloc|apply pw_below_drewN|apply below_drew1))⟩
 ·rw [if_neg hl] at h
  cases h
end Go.Proofs.Ytdcdaoancmpbeaa.MFnExactReorderSteps
--sq
