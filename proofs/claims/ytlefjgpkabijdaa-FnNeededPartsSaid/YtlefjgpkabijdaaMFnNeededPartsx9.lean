import Derived.Test.YtlefjgpkabijdaaMFnNeededPartsx0
import Derived.Test.YtlefjgpkabijdaaMFnNeededPartsx7
import Derived.Test.YtlefjgpkabijdaaMFnNeededPartsx1
import Derived.Test.YtlefjgpkabijdaaMFnNeededPartsx2
import Derived.Test.YtlefjgpkabijdaaMFnNeededPartsx3
import Derived.Test.YtlefjgpkabijdaaMFnNeededPartsx4
import Derived.Test.YtlefjgpkabijdaaMFnNeededPartsx5
import Derived.Test.YtlefjgpkabijdaaMFnNeededPartsx6
import Derived.Test.YtlefjgpkabijdaaMFnNeededPartsx8
namespace Go.Proofs.Ytlefjgpkabijdaa.MFnNeededParts
open Go.RowKit Go.Proofs.YtlefjgpkabijdaaW.PrintWords Go.Proofs.YtlefjgpkabijdaaW.PrintLast Go.Proofs.YtlefjgpkabijdaaW.PrintMore Go.Proofs.YtlefjgpkabijdaaV Go.Proofs.YtlefjgpkabijdaaZ
attribute [local go_sem] max2_int min2_int max_two min_two max_three min_three max_four min_four   -- for this text's walks alone
set_option linter.unusedVariables false
set_option linter.unusedSimpArgs false
/-! ### impl_Plan_used: function 73 -/
section
open Go.Shelf Go.Proofs.YtlefjgpkabijdaaB
attribute [local go_sem] Oper.semAt_some
theorem impl_Plan_used.info : (Try.prog.info? 4).map (fun i=>(i.zero,i.size,i.bytes)) = some (some (.bool false),1,1):=by kernel_rfl
def impl_Plan_used.ok (n : Int) (ss : List S56) (os : List Int) : Bool:=
 decide (1 ≤ n) && decide (n ≤ 1000) && decide (ss.length ≤ 1000) && decide (os.length ≤ 1000) && os.all (fun v=>decide (0 ≤ v) && decide (v < n + ss.length)) && ss.all (fun s=>decide (0 ≤ s.f0) && decide (s.f0 < n + ss.length) && decide (0 ≤ s.f1) && decide (s.f1 < n + ss.length))
theorem impl_Plan_used.ok_of {n : Int} {ss : List S56} {os : List Int} (h : impl_Plan_used.ok n ss os = true) : 1 ≤ n ∧ n ≤ 1000 ∧ ss.length ≤ 1000 ∧ os.length ≤ 1000 ∧ (∀ v ∈ os,0 ≤ v ∧ v < n + ss.length) ∧ (∀ s ∈ ss,(0 ≤ s.f0 ∧ s.f0 < n + ss.length) ∧ 0 ≤ s.f1 ∧ s.f1 < n + ss.length):=by
 unfold impl_Plan_used.ok at h
 simp only [Bool.and_eq_true,decide_eq_true_eq,List.all_eq_true] at h
 obtain ⟨⟨⟨⟨⟨h1,h2⟩,h3⟩,h4⟩,h5⟩,h6⟩:=h
 exact ⟨h1,h2,h3,h4,h5,fun s hs=>by obtain ⟨⟨⟨a,b⟩,c⟩,d⟩:=h6 s hs;exact ⟨⟨a,b⟩,c,d⟩⟩
def impl_Plan_used.step (n : Int) (ss : List S56) (l : List Bool) (x : Nat) : List Bool:=if rdOf false l (n + x) = true then (l.set (rd_T56 ss x).f0.toNat true).set (rd_T56 ss x).f1.toNat true else l
def impl_Plan_used.marks (os : List Int) (l : List Bool) : List Bool:=os.foldl (fun l v=>l.set v.toNat true) l
def impl_Plan_used.f (n : Int) (ss : List S56) (os : List Int) : Option (List Bool):=if impl_Plan_used.ok n ss os = true then some ((down ss.length ss.length).foldl (impl_Plan_used.step n ss) (impl_Plan_used.marks os (List.replicate (n + (ss.length : Int)).toNat false))) else none
theorem impl_Plan_used.step_length (n : Int) (ss : List S56) (l : List Bool) (x : Nat) : (impl_Plan_used.step n ss l x).length = l.length:=by unfold impl_Plan_used.step;split <;> simp
theorem impl_Plan_used.steps_length (n : Int) (ss : List S56) : ∀ (xs : List Nat) (l : List Bool),(xs.foldl (impl_Plan_used.step n ss) l).length = l.length
 | [],_=>rfl
 | x :: xs,l=>by rw [List.foldl_cons,impl_Plan_used.steps_length n ss xs,impl_Plan_used.step_length]
theorem impl_Plan_used.marks_length : ∀ (os : List Int) (l : List Bool),(impl_Plan_used.marks os l).length = l.length
 | [],_=>rfl
 | v :: os,l=>by show (impl_Plan_used.marks os (l.set v.toNat true)).length = _;rw [impl_Plan_used.marks_length os,List.length_set]
/-- The world between two steps: the pointer's variable,the list's variable,the list. -/
def impl_Plan_used.St (w0 wr : World) (g0 B1 B g cap : Nat) (l : List Bool) : Prop:=
 Boxed wr B1 78 (.pointer (some ⟨g0,0,none⟩)) ∧ Boxed wr B 51 (.slice (some ⟨g,0,none⟩) l.length cap) ∧ Kd.R Kd.bool 4 wr w0.heap.size (fun _=>True) (.slice (some ⟨g,0,none⟩) l.length cap) l ∧ Below w0.heap.size w0 wr
theorem impl_Plan_used.St.grown {w0 wr w' : World} {g0 B1 B g cap : Nat} {l : List Bool} {row : Option Nat} (h : impl_Plan_used.St w0 wr g0 B1 B g cap l) (hg : wr.grownBy w' row) (hr : ∀ r,row = some r → w0.heap.size ≤ r ∧ ∃ o : Obj,wr.heap[r]? = some o ∧ o.isCells = false) : impl_Plan_used.St w0 w' g0 B1 B g cap l:=by
 obtain ⟨h1,h2,h3,h4⟩:=h
 have ne : ∀ {k : Nat} {cs : Array Value} {t : TypeId},wr.heap[k]? = some (.cells cs t (0,0)) → some k ≠ row:=by
  intro k cs t hk e
  obtain ⟨_,o,ho,hc⟩:=hr k e.symm
  rw [hk] at ho
  cases ho
  cases hc
 refine ⟨h1.kept hg (ne h1),h2.kept hg (ne h2),?_,h4.grown hg h4.size (fun k e=>(hr k e).1)⟩
 exact Kd.R_mono (Kd.R_move (Kd.R_bound h3) (fun k hk=>by obtain ⟨_,_,hlt,q,_,cells,hc⟩:=hk;exact hg.block k hlt (ne hc))) (fun _ hk=>hk.1)
theorem impl_Plan_used.St.below {w0 wr w' : World} {g0 B1 B g cap : Nat} {l : List Bool} (h : impl_Plan_used.St w0 wr g0 B1 B g cap l) (hw : Below wr.heap.size wr w') : impl_Plan_used.St w0 w' g0 B1 B g cap l:=
 h.grown (grown_of_below hw none) (fun r e=>by cases e)
theorem impl_Plan_used.St.set {w0 wr : World} {g0 B1 B g cap : Nat} {l : List Bool} (h : impl_Plan_used.St w0 wr g0 B1 B g cap l) (i : Int) : impl_Plan_used.St w0 (wr.setCell ⟨g,i.toNat,none⟩ (.bool true)) g0 B1 B g cap (l.set i.toNat true):=by
 obtain ⟨h1,h2,h3,h4⟩:=h
 obtain ⟨p1,p2⟩:=Kd.R_putg h3 i true
 refine ⟨h1.kept p2 (Kd.R_ne h3 h1 (by decide)),?_,?_,h4.grown p2 h4.size (fun k e=>by cases e;exact Kd.R_base h3 g rfl)⟩
 ·rw [List.length_set];exact h2.kept p2 (Kd.R_ne h3 h2 (by decide))
 ·rw [List.length_set];exact p1
theorem impl_Plan_used.St.cell {w0 wr : World} {g0 B1 B g cap : Nat} {l : List Bool} (h : impl_Plan_used.St w0 wr g0 B1 B g cap l) (i : Int) (h0 : 0 ≤ i) (h1 : i < l.length) : wr.cell? ⟨g,i.toNat,none⟩ = some (.bool (rdOf false l i)) ∧ wr.frozen? ⟨g,i.toNat,none⟩ = false:=Kd.R_celln false h.2.2.1 i h0 h1
theorem impl_Plan_used.St.new {w0 w5 w6 : World} {g0 B1 g cap n : Nat} (h1 : w5.heap[B1]? = some (.cells #[.pointer (some ⟨g0,0,none⟩)] 78 (0,0))) (hb5 : Below w0.heap.size w0 w5) (hb : Below w5.heap.size w5 w6) (ho : Kd.R Kd.bool 4 w6 w5.heap.size (fun _=>True) (.slice (some ⟨g,0,none⟩) n cap) (List.replicate n false)) :
  impl_Plan_used.St w0 (w6.alloc (Obj.cells #[.slice (some ⟨g,0,none⟩) n cap] 51)) g0 B1 w6.heap.size g cap (List.replicate n false):=by
 have hb6 : Boxed w6 B1 78 (.pointer (some ⟨g0,0,none⟩)):=(hb.block B1 (blk_lt h1)).trans h1
 have hB:=hb5.trans (hb.mono hb5.size)
 refine ⟨hb6.alloc _,?_,?_,hB.trans ((below_alloc (Below.refl _ _) _).mono hB.size)⟩
 ·rw [List.length_replicate];exact Boxed.new _ _ _
 ·rw [List.length_replicate];exact Kd.R_below (Kd.R_lower ho hb5.size) (below_alloc (Below.refl _ _) _)
/-- What holds while the two stores of a round are under way. -/
def impl_Plan_used.RI (Wa : World) (g B Bx len cap : Nat) (A C : Int) (L : Array Bool) (a : Act) (w' : World) : Prop:=
 (L.size = 10 ∧ a.tmps.size = 49 ∧ a.tmps.getD 3 undef = .pointer (some ⟨B,0,none⟩) ∧ a.tmps.getD 7 undef = .pointer (some ⟨Bx,0,none⟩)) ∧
 ((L.getD 0 false = true → a.tmps.getD 40 undef = .slice (some ⟨g,0,none⟩) len cap) ∧ (L.getD 1 false = true → a.tmps.getD 41 undef = .pointer (some ⟨Bx,0,none⟩)) ∧ (L.getD 2 false = true → a.tmps.getD 42 undef = .int .i64 A) ∧
 (L.getD 3 false = true → a.tmps.getD 43 undef = .slice (some ⟨g,0,none⟩) len cap) ∧ (L.getD 4 false = true → a.tmps.getD 44 undef = .pointer (some ⟨Bx,1,none⟩)) ∧ (L.getD 5 false = true → a.tmps.getD 45 undef = .int .i64 C) ∧
 (L.getD 6 false = true → a.tmps.getD 46 undef = .pointer (some ⟨g,A.toNat,none⟩)) ∧ (L.getD 8 false = true → a.tmps.getD 47 undef = .pointer (some ⟨g,C.toNat,none⟩))) ∧
 ((w' = Wa ∧ L.getD 7 false = false ∧ L.getD 9 false = false) ∨ (w' = Wa.setCell ⟨g,A.toNat,none⟩ (.bool true) ∧ L.getD 7 false = true ∧ L.getD 9 false = false) ∨ (w' = (Wa.setCell ⟨g,A.toNat,none⟩ (.bool true)).setCell ⟨g,C.toNat,none⟩ (.bool true) ∧ L.getD 7 false = true ∧ L.getD 9 false = true))
set_option maxHeartbeats 4000000 in
set_option maxRecDepth 100000 in
theorem impl_Plan_used.calls (g0_ : Nat) (a0_0 : Int) (A0_1 : Option Addr) (c0_1 : Nat) (l0_1 : List S56) (A0_2 : Option Addr) (c0_2 : Nat) (l0_2 : List Int) (r : List Bool) (w : World) (hx0_ : w.heap[g0_]? = some (.cells #[.int .i64 a0_0,.slice A0_1 l0_1.length c0_1,.slice A0_2 l0_2.length c0_2] 32 (0,0))) (hr0_1 : Kd.C k56 w A0_1 l0_1.length l0_1) (hc0_1 : l0_1.length ≤ c0_1) (hr0_2 : Kd.C (Kd.int .i64) w A0_2 l0_2.length l0_2) (hc0_2 : l0_2.length ≤ c0_2) (h : impl_Plan_used.f a0_0 l0_1 l0_2 = some r) :
  Calls Try.prog 73 #[.pointer (some ⟨g0_,0,none⟩)] w fun e w'=>∃ v0_ : Value,e = .returned v0_ ∧ Kd.R Kd.bool 4 w' w.heap.size (fun _=>True) v0_ r ∧ Below w.heap.size w w':=by
 unfold impl_Plan_used.f at h
 by_cases hok : impl_Plan_used.ok a0_0 l0_1 l0_2 = true
 ·rw [if_pos hok] at h
  have HR:=Aside0.mk (Option.some.inj h)
  obtain ⟨n1,n2,n3,n4,n5,n6⟩:=impl_Plan_used.ok_of hok
  have e1 : wrap64 (a0_0 + (l0_1.length : Int)) = a0_0 + l0_1.length:=by unfold wrap64;omega
  have HR1:=Aside0.mk hr0_1
  have HR2:=Aside0.mk hr0_2
  have HX:=Aside0.mk hx0_
  have N5:=Aside0.mk n5
  have N6:=Aside0.mk n6
  have NN:=Aside0.mk (show 1 ≤ a0_0 ∧ a0_0 ≤ 1000 ∧ l0_1.length ≤ 1000 ∧ l0_2.length ≤ 1000 from ⟨n1,n2,n3,n4⟩)
  clear h hok hr0_1 hr0_2 n5 n6 hx0_
  clear n1 n2 n3 n4
  refine (callsIn_wide (n:=8)).1 (callsIn_of_wp_marks Try.func73 rfl trivial ?_ rfl)
  refine wpIn_wide.2 ?_
  simp only [Try.ntmps73,List.size_toArray,List.length_cons,List.length_nil,Nat.reduceAdd,Nat.reduceSub,Array.replicate_succ,Array.replicate_zero,List.push_toArray,List.append_toArray,List.nil_append,List.cons_append]
  go_wp2_with (first|((with_reducible refine gate_dst (N:=1) rfl ?_);refine box_event ?hg (N:=1) ?hd (cs:=#[.pointer (some ⟨g0_,0,none⟩)]) (t:=78) ?hr ?_;(case hd=>rfl);(case hg=>rfl);(case hr=>first|(go_simp;done)|(go_simp;rfl));intro B1 hg w4 hbox hb;have db : w4.cell? ⟨B1,0,none⟩ = some (.pointer (some ⟨g0_,0,none⟩)):=(blk_cell hbox 0).trans rfl;have HX4:=Aside0.mk ((hb.block g0_ (blk_lt HX.out)).trans HX.out);have HBX4:=Aside0.mk hbox;have HB4:=Aside0.mk hb;clear hb hbox hg)|(go_at_call 75;refine (impl_Plan_many.calls g0_ a0_0 A0_1 c0_1 l0_1 A0_2 c0_2 l0_2 (wrap64 (a0_0 + l0_1.length)) _ HX4.out (Kd.C_below HR1.out HB4.out) hc0_1 (Kd.C_below HR2.out HB4.out) hc0_2 rfl).mono ?_;rw [e1];rintro e w5 ⟨rfl,hb⟩;have HB5:=Aside0.mk (HB4.out.trans (hb.mono HB4.out.size));have HBX5:=Aside0.mk ((hb.block B1 (blk_lt HBX4.out)).trans HBX4.out);clear hb)|((with_reducible refine gate_dst (N:=10) rfl ?_);refine Kd.R_make Kd.bool _ 4 rfl (N:=10) rfl 51 _ _ rfl (a0_0 + (l0_1.length : Int)) rfl rfl Try.underlying51 (.bool false) 1 impl_Plan_used.info rfl (by decide) (by omega) false (ok:=fun _=>True) (okp:=fun _=>True) rfl (fun _ hk=>hk) trivial (by have:=NN.out;omega) (by have:=NN.out;omega) (Below.refl _ _) (Nat.le_refl _) ?_;intro v w6 ho hb hg_ hnew_;clear hg_ hnew_;obtain ⟨g,cap,rfl,_⟩:=Kd.R_form ho (by rw [List.length_replicate];have:=NN.out;omega);rw [List.length_replicate] at ho;have hS : impl_Plan_used.St w (w6.alloc (Obj.cells #[.slice (some ⟨g,0,none⟩) (a0_0 + (l0_1.length : Int)).toNat cap] 51)) g0_ B1 w6.heap.size g cap (List.replicate (a0_0 + (l0_1.length : Int)).toNat false):=impl_Plan_used.St.new HBX5.out HB5.out hb ho;have HX6:=Aside0.mk (((HB5.out.trans (hb.mono HB5.out.size)).block g0_ (blk_lt HX.out)).trans HX.out);have d0 : (w6.alloc (Obj.cells #[.slice (some ⟨g,0,none⟩) (a0_0 + (l0_1.length : Int)).toNat cap] 51)).cell? ⟨B1,0,none⟩ = some (.pointer (some ⟨g0_,0,none⟩)):=hS.1.cell;have d2 : (w6.alloc (Obj.cells #[.slice (some ⟨g,0,none⟩) (a0_0 + (l0_1.length : Int)).toNat cap] 51)).cell? ⟨g0_,2,none⟩ = some (.slice A0_2 l0_2.length c0_2):=pw_cell_below (below_alloc (Below.refl _ _) _) ((blk_cell HX6.out 2).trans rfl);have HS:=Aside0.mk hS;clear hS hb ho))
  obtain ⟨l1,hl1⟩ : ∃ l1,l1 = impl_Plan_used.marks l0_2 (List.replicate (a0_0 + (l0_1.length : Int)).toNat false):=⟨_,rfl⟩
  have HR':=Aside0.mk (show (down l0_1.length l0_1.length).foldl (impl_Plan_used.step a0_0 l0_1) l1 = r from by rw [hl1];exact HR.out)
  have HL1:=Aside0.mk hl1.symm
  clear hl1 HR
  go_loopg [16] l0_2.length (fun gg s16 wr=>∃ (kk : Nat) (l : List Bool),Aside0 (kk ≤ l0_2.length ∧ l0_2.length - kk ≤ gg ∧ l.length = (a0_0 + (l0_1.length : Int)).toNat ∧ impl_Plan_used.marks (l0_2.drop kk) l = l1 ∧ impl_Plan_used.St w wr g0_ B1 w6.heap.size g cap l) ∧ s16 = .int .i64 kk)
  case atStart=>exact ⟨0,_,⟨⟨Nat.zero_le _,by omega,by rw [List.length_replicate],HL1.out,HS.out⟩⟩,rfl⟩
  case round=>
   obtain ⟨kk,l,HK,rfl⟩:=hrel
   obtain ⟨h1,h2,h3,h4,hS⟩:=HK.out
   clear HK
   have e0 : wr.cell? ⟨B1,0,none⟩ = some (.pointer (some ⟨g0_,0,none⟩)):=hS.1.cell
   have eB : wr.cell? ⟨w6.heap.size,0,none⟩ = some (.slice (some ⟨g,0,none⟩) l.length cap):=hS.2.1.cell
   by_cases hlt : kk < l0_2.length
   ·have hltz : (kk : Int) < (l0_2.length : Int):=by omega
    obtain ⟨ad,ea,hx⟩:=Kd.at_int HR2.out (kk : Int) (by omega) hltz
    subst ea
    rw [Int.toNat_natCast] at hx
    replace hx:=pw_cell_below hS.2.2.2 hx
    have hv:=N5.out (rd l0_2 kk) (by unfold rd;rw [Int.toNat_natCast,show l0_2.getD kk 0 = l0_2[kk] by simp [List.getD,hlt]];exact List.getElem_mem hlt)
    rw [List.drop_eq_getElem_cons hlt,show l0_2[kk] = rd l0_2 kk by unfold rd;rw [Int.toNat_natCast];simp [List.getD,hlt]] at h4
    generalize rd l0_2 kk = v at *
    have b0 : decide (0 ≤ v) = true:=decide_eq_true hv.1
    have b1 : decide (v < (l.length : Int)) = true:=by rw [decide_eq_true_iff];have:=NN.out;omega
    have q0 : 0 ≤ v:=hv.1
    have q1 : v < (l.length : Int):=of_decide_eq_true b1
    obtain ⟨c0,c1⟩:=hS.cell v hv.1 (by have:=NN.out;omega)
    have H2:=Aside0.mk h2
    have H3:=Aside0.mk h3
    have H4:=Aside0.mk h4
    have HS2:=Aside0.mk hS
    clear h2 h3 h4 hS hv
    go_wp2
    go_roundg (l0_2.length - (kk + 1))
    case measure=>have:=H2.out;omega
    case rel=>have:=NN.out;exact ⟨kk + 1,_,⟨⟨by omega,by omega,by rw [List.length_set];exact H3.out,H4.out,HS2.out.set v⟩⟩,by rw [show wrap64 ((kk : Int) + 1) = ((kk + 1 : Nat) : Int) by unfold wrap64;omega]⟩
   ·have hltz : ¬ (kk : Int) < (l0_2.length : Int):=by omega
    obtain rfl : kk = l0_2.length:=by omega
    have HK1:=Aside0.mk (show l1.length = (a0_0 + (l0_1.length : Int)).toNat by rw [← HL1.out,impl_Plan_used.marks_length,List.length_replicate])
    have H4:=Aside0.mk (show l = l1 by rw [List.drop_length] at h4;exact h4)
    have hxw:=(hS.2.2.2.block g0_ (blk_lt HX.out)).trans HX.out
    have f1 : wr.cell? ⟨g0_,1,none⟩ = some (.slice A0_1 l0_1.length c0_1):=(blk_cell hxw 1).trans rfl
    have HS2:=Aside0.mk hS
    clear h2 h3 h4 hS hxw
    go_wp2_with (go_at_call 31;refine (back_f31 _ _ _ _).mono ?_;rintro e w' ⟨rfl,rfl⟩)
    have hcl : 0 < l0_1.length → ∃ ad,A0_1 = some ad ∧ ad.block < w.heap.size ∧ ∀ j,j < l0_1.length → w.cell? (ad.add (j * 2)) = some (.int .i64 (rd_T56 l0_1 (j : Int)).f0) ∧ w.cell? ⟨(ad.add (j * 2)).block,(ad.add (j * 2)).off + 1,none⟩ = some (.int .i64 (rd_T56 l0_1 (j : Int)).f1):=fun hp=>by
     obtain ⟨ad,ea,hx,_⟩:=at_T56 HR1.out (0 : Int) (by omega) (by omega)
     subst ea
     refine ⟨ad,rfl,by have:=World.block_lt_of_cell? _ _ hx;rwa [add_block] at this,fun j hj=>?_⟩
     obtain ⟨ad',ea,hx0,hx1⟩:=at_T56 HR1.out (j : Int) (by omega) (by omega)
     obtain rfl : ad = ad':=by injection ea
     rw [Int.toNat_natCast] at hx0 hx1
     exact ⟨hx0,hx1⟩
    obtain ⟨W0,hW0⟩ : ∃ W0,wr.alloc (Obj.cells #[.slice A0_1 l0_1.length c0_1] 30) = W0:=⟨_,rfl⟩
    have hS0 : impl_Plan_used.St w W0 g0_ B1 w6.heap.size g cap l:=by rw [← hW0];exact HS2.out.below (below_alloc (Below.refl _ _) _)
    have hBs : Boxed W0 wr.heap.size 30 (.slice A0_1 l0_1.length c0_1):=by rw [← hW0];exact Boxed.new _ _ _
    have hsz : W0.heap.size = wr.heap.size + 1:=by rw [← hW0];simp
    have hw0 : w.heap.size ≤ W0.heap.size:=hS0.2.2.2.size
    have hge : w.heap.size ≤ g:=Kd.R_base hS0.2.2.1 g rfl
    have hgl : g < W0.heap.size:=Kd.R_lt hS0.2.2.1 g rfl
    rw [hW0]
    have HSB:=Aside0.mk (show ∀ i,(i = wr.heap.size ∨ (0 < l0_1.length ∧ ∃ ad,A0_1 = some ad ∧ i = ad.block)) → i < W0.heap.size from fun i hi=>by
     rcases hi with rfl|⟨hp,ad,ea,rfl⟩
     ·omega
     ·obtain ⟨ad',ea',hb,_⟩:=hcl hp
      rw [ea] at ea'
      cases ea'
      exact Nat.lt_of_lt_of_le hb hw0)
    have HSG:=Aside0.mk (show ∀ i,(i = wr.heap.size ∨ (0 < l0_1.length ∧ ∃ ad,A0_1 = some ad ∧ i = ad.block)) → i ≠ g from fun i hi e=>by
     rcases hi with rfl|⟨hp,ad,ea,rfl⟩
     ·exact Kd.R_ne hS0.2.2.1 hBs (by decide) (by rw [e];rfl)
     ·obtain ⟨ad',ea',hb,_⟩:=hcl hp
      rw [ea] at ea'
      cases ea'
      omega)
    have HCL:=Aside0.mk hcl
    clear hcl hW0
    refine (wpIn_wide (n:=8)).1 ?_
    refine wpIn_rangeFunc_ownH rfl (by decide) (gf:=65) (lb:=#[.pointer (some ⟨wr.heap.size,0,none⟩)]) rfl trivial (enters_of Try.func65 (by kernel_rfl) rfl)
     (back_stops_f31 Fence.wide 7 trivial rfl (by decide) wr.heap.size A0_1 l0_1.length c0_1 (fun j=>(rd_T56 l0_1 (j : Int)).f0) (fun j=>(rd_T56 l0_1 (j : Int)).f1) (by have:=NN.out;omega) W0 hBs ?cells)
     (fun h k=>Keeps.trans h k) ?hKb (Below.refl _ _) (fun _=>rfl)
     (fun pre W=>∃ l',l' = (pre.map Fin.val).foldl (impl_Plan_used.step a0_0 l0_1) l1 ∧ impl_Plan_used.St w W g0_ B1 w6.heap.size g cap l' ∧ W0.heap.size ≤ W.heap.size)
     (fun _ _ _=>False) ?hI (fun _ _ _ _ _ hs _ _=>hs) ⟨l,H4.out,hS0,Nat.le_refl _⟩
     (fun x a' W=>∃ Bx,W.heap[Bx]? = some (.cells #[.int .i64 (rd_T56 l0_1 (x.1 : Int)).f0,.int .i64 (rd_T56 l0_1 (x.1 : Int)).f1] 56 (0,0)) ∧ W0.heap.size ≤ Bx ∧ a' = { tmps:=#[Value.pointer (some { block:=g0_,off:=0 }),Value.pointer (some { block:=B1,off:=0 }),Value.slice none 0 0,Value.pointer (some { block:=w6.heap.size,off:=0 }),undef,u5,.int .i64 (x.1 : Int),.pointer (some ⟨Bx,0,none⟩),Value.pointer (some { block:=g0_,off:=0 }),Value.int IntKind.i64 (a0_0 + ↑l0_1.length),Value.slice (some { block:=g,off:=0 }) (a0_0 + ↑l0_1.length).toNat cap,Value.pointer (some { block:=g0_,off:=0 }),Value.pointer (some { block:=g0_,off:=0 }),Value.pointer (some { block:=g0_,off:=2 }),Value.slice A0_2 l0_2.length c0_2,Value.int IntKind.i64 ↑l0_2.length,Value.int IntKind.i64 ↑l0_2.length,Value.bool false,u18,u19,u20,u21,u22,u23,Value.pointer (some { block:=g0_,off:=0 }),Value.pointer (some { block:=g0_,off:=0 }),Value.pointer (some { block:=g0_,off:=1 }),Value.slice A0_1 l0_1.length c0_1,Value.func (Fn.func 65) #[] #[Value.pointer (some { block:=wr.heap.size,off:=0 })],.int .i64 (x.1 : Int),.agg #[.int .i64 (rd_T56 l0_1 (x.1 : Int)).f0,.int .i64 (rd_T56 l0_1 (x.1 : Int)).f1],undef,undef,undef,undef,undef,undef,undef,undef,undef,undef,undef,undef,undef,undef,undef,undef,undef,undef],defers:=[] })
     ?hAx ?assign ?body ?done ?stop
    case cells=>
     intro hp
     obtain ⟨ad,ea,hb,hc⟩:=HCL.out hp
     exact ⟨ad,ea,Nat.lt_of_lt_of_le hb hw0,fun j hj=>⟨pw_cell_below hS0.2.2.2 (hc j hj).1,pw_cell_below hS0.2.2.2 (hc j hj).2⟩⟩
    case hKb=>exact fun W ll o o' hle ho h1 h2 i hi=>World.putObj_heap_other (by have:=HSB.out i hi;omega)
    case hI=>
     intro s A B row hs hg hr
     obtain ⟨l',e',hs,hz⟩:=hs
     exact ⟨l',e',hs.grown hg (fun r e=>⟨Nat.le_trans hw0 (hr r e).1,(hr r e).2⟩),Nat.le_trans hz hg.size⟩
    case hAx=>
     intro x a' s A B row hs hg hr
     obtain ⟨Bx,hb,hz,e⟩:=hs
     refine ⟨Bx,(hg.block Bx (blk_lt hb) (fun e=>?_)).trans hb,hz,e⟩
     obtain ⟨_,o,ho,hc⟩:=hr Bx e.symm
     rw [hb] at ho
     cases ho
     cases hc
    case assign=>
     rintro ll pre x W K hi hK
     obtain ⟨l',e',hs,hz⟩:=hi
     gi_wp2
     exact hK _ _ ((KeepsOthers.alloc _ _).from _) (fun i hi=>Below.heap_alloc _ _ _ (Nat.lt_of_lt_of_le (HSB.out i hi) hz)) ⟨l',e',hs.below (below_alloc (Below.refl _ _) _),by simp;omega⟩ ⟨W.heap.size,World.alloc_heap_new W _,hz,rfl⟩
    case body=>
     rintro ll pre x a' W hl hrec ⟨l',e',hs,hz⟩ ⟨Bx,hBx,hBz,rfl⟩ hlt
     have e0 : W.cell? ⟨B1,0,none⟩ = some (.pointer (some ⟨g0_,0,none⟩)):=hs.1.cell
     have eB : W.cell? ⟨w6.heap.size,0,none⟩ = some (.slice (some ⟨g,0,none⟩) l'.length cap):=hs.2.1.cell
     have f0 : W.cell? ⟨g0_,0,none⟩ = some (.int .i64 a0_0):=(blk_cell ((hs.2.2.2.block g0_ (blk_lt HX.out)).trans HX.out) 0).trans rfl
     have x0 : W.cell? ⟨Bx,0,none⟩ = some (.int .i64 (rd_T56 l0_1 (x.1 : Int)).f0):=(blk_cell hBx 0).trans rfl
     have x1 : W.cell? ⟨Bx,1,none⟩ = some (.int .i64 (rd_T56 l0_1 (x.1 : Int)).f1):=(blk_cell hBx 1).trans rfl
     have hll : l'.length = (a0_0 + (l0_1.length : Int)).toNat:=by rw [e',impl_Plan_used.steps_length];exact HK1.out
     have w1 : wrap64 (a0_0 + (x.1 : Int)) = a0_0 + (x.1 : Int):=by have:=x.2;have:=NN.out;unfold wrap64;omega
     have q0 : 0 ≤ wrap64 (a0_0 + (x.1 : Int)):=by rw [w1];have:=NN.out;omega
     have q1 : wrap64 (a0_0 + (x.1 : Int)) < (l'.length : Int):=by rw [w1];have:=x.2;have:=NN.out;omega
     obtain ⟨c0,_⟩:=hs.cell (wrap64 (a0_0 + (x.1 : Int))) q0 q1
     have hsx:=N6.out (rd_T56 l0_1 (x.1 : Int)) (by unfold rd_T56;rw [Int.toNat_natCast,show l0_1.getD x.1 z56 = l0_1[x.1] by simp [List.getD]];exact List.getElem_mem x.2)
     have HSX:=Aside0.mk (show (0 ≤ (rd_T56 l0_1 (x.1 : Int)).f0 ∧ (rd_T56 l0_1 (x.1 : Int)).f0 < (l'.length : Int)) ∧ 0 ≤ (rd_T56 l0_1 (x.1 : Int)).f1 ∧ (rd_T56 l0_1 (x.1 : Int)).f1 < (l'.length : Int) by have:=NN.out;omega)
     clear hsx
     obtain ⟨A,hA⟩ : ∃ A,(rd_T56 l0_1 (x.1 : Int)).f0 = A:=⟨_,rfl⟩
     obtain ⟨B,hB⟩ : ∃ B,(rd_T56 l0_1 (x.1 : Int)).f1 = B:=⟨_,rfl⟩
     rw [hA] at x0
     rw [hB] at x1
     have HAB:=Aside0.mk (And.intro hA hB)
     have k0 : 0 ≤ A:=by rw [← hA];exact HSX.out.1.1
     have k1 : A < (l'.length : Int):=by rw [← hA];exact HSX.out.1.2
     have k2 : 0 ≤ B:=by rw [← hB];exact HSX.out.2.1
     have k3 : B < (l'.length : Int):=by rw [← hB];exact HSX.out.2.2
     clear hA hB
     obtain ⟨ca,fa⟩:=hs.cell A k0 k1
     obtain ⟨cb,fb⟩:=hs.cell B k2 k3
     obtain ⟨b,hb⟩ : ∃ b,b = rdOf false l' (wrap64 (a0_0 + (x.1 : Int))):=⟨_,rfl⟩
     rw [← hb] at c0
     have HI:=Aside0.mk w1
     have HLL:=Aside0.mk hll
     have p0 : 0 ≤ IntKind.i64.wrap (a0_0 + (x.1 : Int)):=by rw [i64_w];exact q0
     have p1 : IntKind.i64.wrap (a0_0 + (x.1 : Int)) < (l'.length : Int):=by rw [i64_w];exact q1
     have c2 : W.cell? ⟨g,(IntKind.i64.wrap (a0_0 + (x.1 : Int))).toNat,none⟩ = some (.bool b):=by rw [i64_w];exact c0
     clear w1 hll
     have hmx : Try.prog.follows .mixedOrders = true:=by kernel_rfl
     have hms : Try.prog.follows .lateStores = true:=by kernel_rfl
     have HE:=Aside0.mk e'
     have HS3:=Aside0.mk hs
     have HBB:=Aside0.mk hb
     have HBX:=Aside0.mk hBx
     clear e' hs hb hBx
     gi_wp2
     have b0 : decide (0 ≤ wrap64 (a0_0 + (x.1 : Int))) = true:=decide_eq_true q0
     have b1 : decide (wrap64 (a0_0 + (x.1 : Int)) < (l'.length : Int)) = true:=decide_eq_true q1
     refine wpIn_mono (Q:=fun e a' w'=>e = .normal ∧ w' = W.drew ∧ a' = { tmps:=#[Value.pointer (some { block:=g0_,off:=0 }),Value.pointer (some { block:=B1,off:=0 }),Value.slice none 0 0,Value.pointer (some { block:=w6.heap.size,off:=0 }),undef,u5,.int .i64 (x.1 : Int),.pointer (some ⟨Bx,0,none⟩),Value.pointer (some { block:=g0_,off:=0 }),Value.int IntKind.i64 (a0_0 + ↑l0_1.length),Value.slice (some { block:=g,off:=0 }) (a0_0 + ↑l0_1.length).toNat cap,Value.pointer (some { block:=g0_,off:=0 }),Value.pointer (some { block:=g0_,off:=0 }),Value.pointer (some { block:=g0_,off:=2 }),Value.slice A0_2 l0_2.length c0_2,Value.int IntKind.i64 ↑l0_2.length,Value.int IntKind.i64 ↑l0_2.length,Value.bool false,u18,u19,u20,u21,u22,u23,Value.pointer (some { block:=g0_,off:=0 }),Value.pointer (some { block:=g0_,off:=0 }),Value.pointer (some { block:=g0_,off:=1 }),Value.slice A0_1 l0_1.length c0_1,Value.func (Fn.func 65) #[] #[Value.pointer (some { block:=wr.heap.size,off:=0 })],.int .i64 (x.1 : Int),.agg #[.int .i64 (rd_T56 l0_1 (x.1 : Int)).f0,.int .i64 (rd_T56 l0_1 (x.1 : Int)).f1],.slice (some ⟨g,0,none⟩) l'.length cap,.pointer (some ⟨g0_,0,none⟩),.pointer (some ⟨g0_,0,none⟩),.pointer (some ⟨g0_,0,none⟩),.int .i64 a0_0,.int .i64 (x.1 : Int),.int .i64 (IntKind.i64.wrap (a0_0 + (x.1 : Int))),.pointer (some ⟨g,(IntKind.i64.wrap (a0_0 + (x.1 : Int))).toNat,none⟩),.bool b,undef,undef,undef,undef,undef,undef,undef,undef,undef],defers:=[] }) ?_ ?_
     ·gi_region_with_o (fail)
      all_goals exact ⟨rfl,rfl,rfl⟩
     rintro _ _ _ ⟨rfl,rfl,rfl⟩
     have hng : ¬ Bx = g:=fun e=>by have:=Kd.R_ne HS3.out.2.2.1 HBX.out (by decide);exact this (by rw [e];rfl)
     have hnb : ¬ w6.heap.size = g:=fun e=>by have:=Kd.R_ne HS3.out.2.2.1 HS3.out.2.1 (by decide);exact this (by rw [e];rfl)
     cases b with
     | false=>
      gi_wp2
      exact ⟨(KeepsOthers.drew W).from _,fun i hi=>rfl,l',by rw [List.map_append,List.foldl_append,← HE.out];show _ = impl_Plan_used.step a0_0 l0_1 l' x.1;unfold impl_Plan_used.step;rw [← HI.out,← HBB.out,if_neg (by decide)],HS3.out.below (below_drew1 (Below.refl _ _)),hz⟩
     | true=>
      obtain ⟨cs,fs⟩:=(HS3.out.set A).cell B k2 (by rw [List.length_set];exact k3)
      gi_wp2
      refine wpIn_region_any hmx ?_
      have hSa0 : impl_Plan_used.St w { W.drew with drawn:=W.drew.drawn + 1 } g0_ B1 w6.heap.size g cap l':=HS3.out.below (below_drew1 (below_drew1 (Below.refl _ _)))
      have hBa0 : ({ W.drew with drawn:=W.drew.drawn + 1 } : World).heap[Bx]? = W.heap[Bx]?:=rfl
      have hKa0 : KeepsOthers W { W.drew with drawn:=W.drew.drawn + 1 }:=(KeepsOthers.drew W).trans (KeepsOthers.drew _)
      have hHa0 : ({ W.drew with drawn:=W.drew.drawn + 1 } : World).heap = W.heap:=rfl
      obtain ⟨Wa,hWa⟩ : ∃ Wa,({ W.drew with drawn:=W.drew.drawn + 1 } : World) = Wa:=⟨_,rfl⟩
      rw [hWa] at hSa0 hBa0 hKa0 hHa0 ⊢
      have hbx : Wa.heap[Bx]? = some (.cells #[.int .i64 A,.int .i64 B] 56 (0,0)):=by rw [hBa0,HBX.out,HAB.out.1,HAB.out.2]
      have HSA:=Aside0.mk hSa0
      have HKA:=Aside0.mk hKa0
      have HHA:=Aside0.mk hHa0
      clear hWa hSa0 hBa0 hKa0 hHa0
      have hfive : ∀ w',(w' = Wa ∨ w' = Wa.setCell ⟨g,A.toNat,none⟩ (.bool true) ∨ w' = (Wa.setCell ⟨g,A.toNat,none⟩ (.bool true)).setCell ⟨g,B.toNat,none⟩ (.bool true)) →
        w'.cell? ⟨w6.heap.size,0,none⟩ = some (.slice (some ⟨g,0,none⟩) l'.length cap) ∧ w'.cell? ⟨Bx,0,none⟩ = some (.int .i64 A) ∧ w'.cell? ⟨Bx,1,none⟩ = some (.int .i64 B) ∧
        (∃ v,w'.cell? ⟨g,A.toNat,none⟩ = some v ∧ w'.frozen? ⟨g,A.toNat,none⟩ = false) ∧ (∃ v,w'.cell? ⟨g,B.toNat,none⟩ = some v ∧ w'.frozen? ⟨g,B.toNat,none⟩ = false):=by
       have one : ∀ (W' : World) (m : List Bool),m.length = l'.length → impl_Plan_used.St w W' g0_ B1 w6.heap.size g cap m → W'.heap[Bx]? = some (.cells #[.int .i64 A,.int .i64 B] 56 (0,0)) →
         W'.cell? ⟨w6.heap.size,0,none⟩ = some (.slice (some ⟨g,0,none⟩) l'.length cap) ∧ W'.cell? ⟨Bx,0,none⟩ = some (.int .i64 A) ∧ W'.cell? ⟨Bx,1,none⟩ = some (.int .i64 B) ∧
         (∃ v,W'.cell? ⟨g,A.toNat,none⟩ = some v ∧ W'.frozen? ⟨g,A.toNat,none⟩ = false) ∧ (∃ v,W'.cell? ⟨g,B.toNat,none⟩ = some v ∧ W'.frozen? ⟨g,B.toNat,none⟩ = false):=fun W' m hm hs hb=>by
        have h1:=hs.2.1.cell
        rw [hm] at h1
        exact ⟨h1,(blk_cell hb 0).trans rfl,(blk_cell hb 1).trans rfl,⟨_,hs.cell A k0 (by omega)⟩,⟨_,hs.cell B k2 (by omega)⟩⟩
       have b1:=(Below.heap_setCell Wa ⟨g,A.toNat,none⟩ (.bool true) Bx hng).trans hbx
       rintro w' (rfl|rfl|rfl)
       ·exact one _ _ rfl HSA.out hbx
       ·exact one _ _ (by simp) (HSA.out.set A) b1
       ·exact one _ _ (by simp) ((HSA.out.set A).set B) ((Below.heap_setCell _ ⟨g,B.toNat,none⟩ (.bool true) Bx hng).trans b1)
      clear cs fs hbx
      refine wpAnyIn_inv (I:=impl_Plan_used.RI Wa g w6.heap.size Bx l'.length cap A B) ?rdone ?rstep _ _ _ _ ?rinit (by decide)
      case rinit=>exact ⟨⟨rfl,rfl,rfl,rfl⟩,⟨fun h=>(by cases h),fun h=>(by cases h),fun h=>(by cases h),fun h=>(by cases h),fun h=>(by cases h),fun h=>(by cases h),fun h=>(by cases h),fun h=>(by cases h)⟩,.inl ⟨rfl,rfl,rfl⟩⟩
      case rdone=>
       intro L a w' hI hr
       have hall:=ready_nil_all (show L.size = 10 from hI.1.1) (by kernel_rfl) hr
       have h9:=hall 9 (by decide)
       have hw : w' = (Wa.setCell ⟨g,A.toNat,none⟩ (.bool true)).setCell ⟨g,B.toNat,none⟩ (.bool true):=by
        rcases hI.2.2 with h|h|h
        ·rw [h.2.2] at h9;cases h9
        ·rw [h.2.2] at h9;cases h9
        ·exact h.1
       subst hw
       show _ ∧ _ ∧ _
       refine ⟨((HKA.out.trans (KeepsOthers.setCell _ _ _)).trans (KeepsOthers.setCell _ _ _)).from _,fun i hi=>?_,(l'.set A.toNat true).set B.toNat true,?_,(HSA.out.set A).set B,?_⟩
       ·have hne:=HSG.out i hi
        exact (Below.heap_setCell _ ⟨g,B.toNat,none⟩ _ i hne).trans ((Below.heap_setCell _ ⟨g,A.toNat,none⟩ _ i hne).trans (by rw [HHA.out]))
       ·rw [List.map_append,List.foldl_append,← HE.out]
        show _ = impl_Plan_used.step a0_0 l0_1 l' x.1
        unfold impl_Plan_used.step
        rw [← HI.out,← HBB.out,if_pos rfl,HAB.out.1,HAB.out.2]
       ·have : ((Wa.setCell ⟨g,A.toNat,none⟩ (.bool true)).setCell ⟨g,B.toNat,none⟩ (.bool true)).heap.size = W.heap.size:=by simp [World.setCell,HHA.out]
        omega
      case rstep=>
       intro L a w' hI i hi
       obtain ⟨hun,oj,hoj,hall⟩:=mem_ready.1 hi
       obtain ⟨⟨z1,z2,t3,t7⟩,⟨v0,v1,v2,v3,v4,v5,v6,v8⟩,hw⟩:=hI
       have hi10 : i < 10:=(Array.getElem?_eq_some_iff.1 hoj).1
       obtain rfl|rfl|rfl|rfl|rfl|rfl|rfl|rfl|rfl|rfl : i = 0 ∨ i = 1 ∨ i = 2 ∨ i = 3 ∨ i = 4 ∨ i = 5 ∨ i = 6 ∨ i = 7 ∨ i = 8 ∨ i = 9:=by omega
       ·obtain rfl:=Option.some.inj hoj
        clear hoj hall hi
        obtain ⟨c1,c2,c3,⟨ua,c4,c5⟩,⟨uc,c6,c7⟩⟩:=hfive _ (hw.imp And.left (Or.imp And.left And.left))
        have HW:=Aside0.mk hw;clear hw
        have AV:=Aside0.mk (And.intro v0 (And.intro v1 (And.intro v2 (And.intro v3 (And.intro v4 (And.intro v5 (And.intro v6 v8)))))))
        clear v0 v1 v2 v3 v4 v5 v6 v8
        unfold Go.wpOpIn
        go_simp
        obtain ⟨v0,v1,v2,v3,v4,v5,v6,v8⟩:=AV.out
        have hw:=HW.out
        exact ⟨⟨by rw [Array.size_setIfInBounds];exact z1,by rw [Array.size_setIfInBounds];exact z2,(gd_ne (by decide)).trans t3,(gd_ne (by decide)).trans t7⟩,⟨fun _=>gd_eq (by omega),fun h=>(gd_ne (by decide)).trans (v1 ((gd_ne (by decide)).symm.trans h)),fun h=>(gd_ne (by decide)).trans (v2 ((gd_ne (by decide)).symm.trans h)),fun h=>(gd_ne (by decide)).trans (v3 ((gd_ne (by decide)).symm.trans h)),fun h=>(gd_ne (by decide)).trans (v4 ((gd_ne (by decide)).symm.trans h)),fun h=>(gd_ne (by decide)).trans (v5 ((gd_ne (by decide)).symm.trans h)),fun h=>(gd_ne (by decide)).trans (v6 ((gd_ne (by decide)).symm.trans h)),fun h=>(gd_ne (by decide)).trans (v8 ((gd_ne (by decide)).symm.trans h))⟩,hw.imp (fun h=>⟨h.1,(gd_ne (by decide)).trans h.2.1,(gd_ne (by decide)).trans h.2.2⟩) (Or.imp (fun h=>⟨h.1,(gd_ne (by decide)).trans h.2.1,(gd_ne (by decide)).trans h.2.2⟩) (fun h=>⟨h.1,(gd_ne (by decide)).trans h.2.1,(gd_ne (by decide)).trans h.2.2⟩))⟩
       ·obtain rfl:=Option.some.inj hoj
        clear hoj hall hi
        obtain ⟨c1,c2,c3,⟨ua,c4,c5⟩,⟨uc,c6,c7⟩⟩:=hfive _ (hw.imp And.left (Or.imp And.left And.left))
        have HW:=Aside0.mk hw;clear hw
        have AV:=Aside0.mk (And.intro v0 (And.intro v1 (And.intro v2 (And.intro v3 (And.intro v4 (And.intro v5 (And.intro v6 v8)))))))
        clear v0 v1 v2 v3 v4 v5 v6 v8
        unfold Go.wpOpIn
        go_simp
        obtain ⟨v0,v1,v2,v3,v4,v5,v6,v8⟩:=AV.out
        have hw:=HW.out
        exact ⟨⟨by rw [Array.size_setIfInBounds];exact z1,by rw [Array.size_setIfInBounds];exact z2,(gd_ne (by decide)).trans t3,(gd_ne (by decide)).trans t7⟩,⟨fun h=>(gd_ne (by decide)).trans (v0 ((gd_ne (by decide)).symm.trans h)),fun _=>gd_eq (by omega),fun h=>(gd_ne (by decide)).trans (v2 ((gd_ne (by decide)).symm.trans h)),fun h=>(gd_ne (by decide)).trans (v3 ((gd_ne (by decide)).symm.trans h)),fun h=>(gd_ne (by decide)).trans (v4 ((gd_ne (by decide)).symm.trans h)),fun h=>(gd_ne (by decide)).trans (v5 ((gd_ne (by decide)).symm.trans h)),fun h=>(gd_ne (by decide)).trans (v6 ((gd_ne (by decide)).symm.trans h)),fun h=>(gd_ne (by decide)).trans (v8 ((gd_ne (by decide)).symm.trans h))⟩,hw.imp (fun h=>⟨h.1,(gd_ne (by decide)).trans h.2.1,(gd_ne (by decide)).trans h.2.2⟩) (Or.imp (fun h=>⟨h.1,(gd_ne (by decide)).trans h.2.1,(gd_ne (by decide)).trans h.2.2⟩) (fun h=>⟨h.1,(gd_ne (by decide)).trans h.2.1,(gd_ne (by decide)).trans h.2.2⟩))⟩
       ·obtain rfl:=Option.some.inj hoj
        have d1:=hall { on:=1,ground:=.data } (by simp) rfl
        have x1:=v1 d1
        clear hoj hall hi
        obtain ⟨c1,c2,c3,⟨ua,c4,c5⟩,⟨uc,c6,c7⟩⟩:=hfive _ (hw.imp And.left (Or.imp And.left And.left))
        have HW:=Aside0.mk hw;clear hw
        have AV:=Aside0.mk (And.intro v0 (And.intro v1 (And.intro v2 (And.intro v3 (And.intro v4 (And.intro v5 (And.intro v6 v8)))))))
        clear v0 v1 v2 v3 v4 v5 v6 v8
        unfold Go.wpOpIn
        go_simp
        obtain ⟨v0,v1,v2,v3,v4,v5,v6,v8⟩:=AV.out
        have hw:=HW.out
        exact ⟨⟨by rw [Array.size_setIfInBounds];exact z1,by rw [Array.size_setIfInBounds];exact z2,(gd_ne (by decide)).trans t3,(gd_ne (by decide)).trans t7⟩,⟨fun h=>(gd_ne (by decide)).trans (v0 ((gd_ne (by decide)).symm.trans h)),fun h=>(gd_ne (by decide)).trans (v1 ((gd_ne (by decide)).symm.trans h)),fun _=>gd_eq (by omega),fun h=>(gd_ne (by decide)).trans (v3 ((gd_ne (by decide)).symm.trans h)),fun h=>(gd_ne (by decide)).trans (v4 ((gd_ne (by decide)).symm.trans h)),fun h=>(gd_ne (by decide)).trans (v5 ((gd_ne (by decide)).symm.trans h)),fun h=>(gd_ne (by decide)).trans (v6 ((gd_ne (by decide)).symm.trans h)),fun h=>(gd_ne (by decide)).trans (v8 ((gd_ne (by decide)).symm.trans h))⟩,hw.imp (fun h=>⟨h.1,(gd_ne (by decide)).trans h.2.1,(gd_ne (by decide)).trans h.2.2⟩) (Or.imp (fun h=>⟨h.1,(gd_ne (by decide)).trans h.2.1,(gd_ne (by decide)).trans h.2.2⟩) (fun h=>⟨h.1,(gd_ne (by decide)).trans h.2.1,(gd_ne (by decide)).trans h.2.2⟩))⟩
       ·obtain rfl:=Option.some.inj hoj
        clear hoj hall hi
        obtain ⟨c1,c2,c3,⟨ua,c4,c5⟩,⟨uc,c6,c7⟩⟩:=hfive _ (hw.imp And.left (Or.imp And.left And.left))
        have HW:=Aside0.mk hw;clear hw
        have AV:=Aside0.mk (And.intro v0 (And.intro v1 (And.intro v2 (And.intro v3 (And.intro v4 (And.intro v5 (And.intro v6 v8)))))))
        clear v0 v1 v2 v3 v4 v5 v6 v8
        unfold Go.wpOpIn
        go_simp
        obtain ⟨v0,v1,v2,v3,v4,v5,v6,v8⟩:=AV.out
        have hw:=HW.out
        exact ⟨⟨by rw [Array.size_setIfInBounds];exact z1,by rw [Array.size_setIfInBounds];exact z2,(gd_ne (by decide)).trans t3,(gd_ne (by decide)).trans t7⟩,⟨fun h=>(gd_ne (by decide)).trans (v0 ((gd_ne (by decide)).symm.trans h)),fun h=>(gd_ne (by decide)).trans (v1 ((gd_ne (by decide)).symm.trans h)),fun h=>(gd_ne (by decide)).trans (v2 ((gd_ne (by decide)).symm.trans h)),fun _=>gd_eq (by omega),fun h=>(gd_ne (by decide)).trans (v4 ((gd_ne (by decide)).symm.trans h)),fun h=>(gd_ne (by decide)).trans (v5 ((gd_ne (by decide)).symm.trans h)),fun h=>(gd_ne (by decide)).trans (v6 ((gd_ne (by decide)).symm.trans h)),fun h=>(gd_ne (by decide)).trans (v8 ((gd_ne (by decide)).symm.trans h))⟩,hw.imp (fun h=>⟨h.1,(gd_ne (by decide)).trans h.2.1,(gd_ne (by decide)).trans h.2.2⟩) (Or.imp (fun h=>⟨h.1,(gd_ne (by decide)).trans h.2.1,(gd_ne (by decide)).trans h.2.2⟩) (fun h=>⟨h.1,(gd_ne (by decide)).trans h.2.1,(gd_ne (by decide)).trans h.2.2⟩))⟩
       ·obtain rfl:=Option.some.inj hoj
        clear hoj hall hi
        obtain ⟨c1,c2,c3,⟨ua,c4,c5⟩,⟨uc,c6,c7⟩⟩:=hfive _ (hw.imp And.left (Or.imp And.left And.left))
        have HW:=Aside0.mk hw;clear hw
        have AV:=Aside0.mk (And.intro v0 (And.intro v1 (And.intro v2 (And.intro v3 (And.intro v4 (And.intro v5 (And.intro v6 v8)))))))
        clear v0 v1 v2 v3 v4 v5 v6 v8
        unfold Go.wpOpIn
        go_simp
        obtain ⟨v0,v1,v2,v3,v4,v5,v6,v8⟩:=AV.out
        have hw:=HW.out
        exact ⟨⟨by rw [Array.size_setIfInBounds];exact z1,by rw [Array.size_setIfInBounds];exact z2,(gd_ne (by decide)).trans t3,(gd_ne (by decide)).trans t7⟩,⟨fun h=>(gd_ne (by decide)).trans (v0 ((gd_ne (by decide)).symm.trans h)),fun h=>(gd_ne (by decide)).trans (v1 ((gd_ne (by decide)).symm.trans h)),fun h=>(gd_ne (by decide)).trans (v2 ((gd_ne (by decide)).symm.trans h)),fun h=>(gd_ne (by decide)).trans (v3 ((gd_ne (by decide)).symm.trans h)),fun _=>gd_eq (by omega),fun h=>(gd_ne (by decide)).trans (v5 ((gd_ne (by decide)).symm.trans h)),fun h=>(gd_ne (by decide)).trans (v6 ((gd_ne (by decide)).symm.trans h)),fun h=>(gd_ne (by decide)).trans (v8 ((gd_ne (by decide)).symm.trans h))⟩,hw.imp (fun h=>⟨h.1,(gd_ne (by decide)).trans h.2.1,(gd_ne (by decide)).trans h.2.2⟩) (Or.imp (fun h=>⟨h.1,(gd_ne (by decide)).trans h.2.1,(gd_ne (by decide)).trans h.2.2⟩) (fun h=>⟨h.1,(gd_ne (by decide)).trans h.2.1,(gd_ne (by decide)).trans h.2.2⟩))⟩
       ·obtain rfl:=Option.some.inj hoj
        have d4:=hall { on:=4,ground:=.data } (by simp) rfl
        have x4:=v4 d4
        clear hoj hall hi
        obtain ⟨c1,c2,c3,⟨ua,c4,c5⟩,⟨uc,c6,c7⟩⟩:=hfive _ (hw.imp And.left (Or.imp And.left And.left))
        have HW:=Aside0.mk hw;clear hw
        have AV:=Aside0.mk (And.intro v0 (And.intro v1 (And.intro v2 (And.intro v3 (And.intro v4 (And.intro v5 (And.intro v6 v8)))))))
        clear v0 v1 v2 v3 v4 v5 v6 v8
        unfold Go.wpOpIn
        go_simp
        obtain ⟨v0,v1,v2,v3,v4,v5,v6,v8⟩:=AV.out
        have hw:=HW.out
        exact ⟨⟨by rw [Array.size_setIfInBounds];exact z1,by rw [Array.size_setIfInBounds];exact z2,(gd_ne (by decide)).trans t3,(gd_ne (by decide)).trans t7⟩,⟨fun h=>(gd_ne (by decide)).trans (v0 ((gd_ne (by decide)).symm.trans h)),fun h=>(gd_ne (by decide)).trans (v1 ((gd_ne (by decide)).symm.trans h)),fun h=>(gd_ne (by decide)).trans (v2 ((gd_ne (by decide)).symm.trans h)),fun h=>(gd_ne (by decide)).trans (v3 ((gd_ne (by decide)).symm.trans h)),fun h=>(gd_ne (by decide)).trans (v4 ((gd_ne (by decide)).symm.trans h)),fun _=>gd_eq (by omega),fun h=>(gd_ne (by decide)).trans (v6 ((gd_ne (by decide)).symm.trans h)),fun h=>(gd_ne (by decide)).trans (v8 ((gd_ne (by decide)).symm.trans h))⟩,hw.imp (fun h=>⟨h.1,(gd_ne (by decide)).trans h.2.1,(gd_ne (by decide)).trans h.2.2⟩) (Or.imp (fun h=>⟨h.1,(gd_ne (by decide)).trans h.2.1,(gd_ne (by decide)).trans h.2.2⟩) (fun h=>⟨h.1,(gd_ne (by decide)).trans h.2.1,(gd_ne (by decide)).trans h.2.2⟩))⟩
       ·obtain rfl:=Option.some.inj hoj
        have d0:=hall { on:=0,ground:=.data } (by simp) rfl
        have d2:=hall { on:=2,ground:=.data } (by simp) rfl
        have x0:=v0 d0
        have x2:=v2 d2
        clear hoj hall hi
        obtain ⟨c1,c2,c3,⟨ua,c4,c5⟩,⟨uc,c6,c7⟩⟩:=hfive _ (hw.imp And.left (Or.imp And.left And.left))
        have HW:=Aside0.mk hw;clear hw
        have AV:=Aside0.mk (And.intro v0 (And.intro v1 (And.intro v2 (And.intro v3 (And.intro v4 (And.intro v5 (And.intro v6 v8)))))))
        clear v0 v1 v2 v3 v4 v5 v6 v8
        unfold Go.wpOpIn
        go_simp
        obtain ⟨v0,v1,v2,v3,v4,v5,v6,v8⟩:=AV.out
        have hw:=HW.out
        exact ⟨⟨by rw [Array.size_setIfInBounds];exact z1,by rw [Array.size_setIfInBounds];exact z2,(gd_ne (by decide)).trans t3,(gd_ne (by decide)).trans t7⟩,⟨fun h=>(gd_ne (by decide)).trans (v0 ((gd_ne (by decide)).symm.trans h)),fun h=>(gd_ne (by decide)).trans (v1 ((gd_ne (by decide)).symm.trans h)),fun h=>(gd_ne (by decide)).trans (v2 ((gd_ne (by decide)).symm.trans h)),fun h=>(gd_ne (by decide)).trans (v3 ((gd_ne (by decide)).symm.trans h)),fun h=>(gd_ne (by decide)).trans (v4 ((gd_ne (by decide)).symm.trans h)),fun h=>(gd_ne (by decide)).trans (v5 ((gd_ne (by decide)).symm.trans h)),fun _=>gd_eq (by omega),fun h=>(gd_ne (by decide)).trans (v8 ((gd_ne (by decide)).symm.trans h))⟩,hw.imp (fun h=>⟨h.1,(gd_ne (by decide)).trans h.2.1,(gd_ne (by decide)).trans h.2.2⟩) (Or.imp (fun h=>⟨h.1,(gd_ne (by decide)).trans h.2.1,(gd_ne (by decide)).trans h.2.2⟩) (fun h=>⟨h.1,(gd_ne (by decide)).trans h.2.1,(gd_ne (by decide)).trans h.2.2⟩))⟩
       ·obtain rfl:=Option.some.inj hoj
        have d6:=hall { on:=6,ground:=.data } (by simp) rfl
        have x6:=v6 d6
        clear hoj hall hi
        have hw' : w' = Wa:=by rcases hw with h|h|h <;> first|exact h.1|(rw [gd_any (by omega) (d':=false),h.2.1] at hun;cases hun)
        have h9 : L.getD 9 false = false:=by rcases hw with h|h|h <;> first|exact h.2.2|(rw [gd_any (by omega) (d':=false),h.2.1] at hun;cases hun)
        clear hw;subst hw'
        obtain ⟨c1,c2,c3,⟨ua,c4,c5⟩,⟨uc,c6,c7⟩⟩:=hfive _ (.inl rfl)
        have AV:=Aside0.mk (And.intro v0 (And.intro v1 (And.intro v2 (And.intro v3 (And.intro v4 (And.intro v5 (And.intro v6 v8)))))))
        clear v0 v1 v2 v3 v4 v5 v6 v8
        unfold Go.wpOpIn
        go_simp
        obtain ⟨v0,v1,v2,v3,v4,v5,v6,v8⟩:=AV.out
        exact ⟨⟨by rw [Array.size_setIfInBounds];exact z1,z2,t3,t7⟩,⟨fun h=>v0 ((gd_ne (by decide)).symm.trans h),fun h=>v1 ((gd_ne (by decide)).symm.trans h),fun h=>v2 ((gd_ne (by decide)).symm.trans h),fun h=>v3 ((gd_ne (by decide)).symm.trans h),fun h=>v4 ((gd_ne (by decide)).symm.trans h),fun h=>v5 ((gd_ne (by decide)).symm.trans h),fun h=>v6 ((gd_ne (by decide)).symm.trans h),fun h=>v8 ((gd_ne (by decide)).symm.trans h)⟩,.inr (.inl ⟨rfl,gd_eq (by omega),(gd_ne (by decide)).trans h9⟩)⟩
       ·obtain rfl:=Option.some.inj hoj
        have d3:=hall { on:=3,ground:=.data } (by simp) rfl
        have d5:=hall { on:=5,ground:=.data } (by simp) rfl
        have x3:=v3 d3
        have x5:=v5 d5
        clear hoj hall hi
        obtain ⟨c1,c2,c3,⟨ua,c4,c5⟩,⟨uc,c6,c7⟩⟩:=hfive _ (hw.imp And.left (Or.imp And.left And.left))
        have HW:=Aside0.mk hw;clear hw
        have AV:=Aside0.mk (And.intro v0 (And.intro v1 (And.intro v2 (And.intro v3 (And.intro v4 (And.intro v5 (And.intro v6 v8)))))))
        clear v0 v1 v2 v3 v4 v5 v6 v8
        unfold Go.wpOpIn
        go_simp
        obtain ⟨v0,v1,v2,v3,v4,v5,v6,v8⟩:=AV.out
        have hw:=HW.out
        exact ⟨⟨by rw [Array.size_setIfInBounds];exact z1,by rw [Array.size_setIfInBounds];exact z2,(gd_ne (by decide)).trans t3,(gd_ne (by decide)).trans t7⟩,⟨fun h=>(gd_ne (by decide)).trans (v0 ((gd_ne (by decide)).symm.trans h)),fun h=>(gd_ne (by decide)).trans (v1 ((gd_ne (by decide)).symm.trans h)),fun h=>(gd_ne (by decide)).trans (v2 ((gd_ne (by decide)).symm.trans h)),fun h=>(gd_ne (by decide)).trans (v3 ((gd_ne (by decide)).symm.trans h)),fun h=>(gd_ne (by decide)).trans (v4 ((gd_ne (by decide)).symm.trans h)),fun h=>(gd_ne (by decide)).trans (v5 ((gd_ne (by decide)).symm.trans h)),fun h=>(gd_ne (by decide)).trans (v6 ((gd_ne (by decide)).symm.trans h)),fun _=>gd_eq (by omega)⟩,hw.imp (fun h=>⟨h.1,(gd_ne (by decide)).trans h.2.1,(gd_ne (by decide)).trans h.2.2⟩) (Or.imp (fun h=>⟨h.1,(gd_ne (by decide)).trans h.2.1,(gd_ne (by decide)).trans h.2.2⟩) (fun h=>⟨h.1,(gd_ne (by decide)).trans h.2.1,(gd_ne (by decide)).trans h.2.2⟩))⟩
       ·obtain rfl:=Option.some.inj hoj
        have d8:=hall { on:=8,ground:=.data } (by simp) rfl
        have d7:=hall { on:=7,ground:=.chain } (by simp) rfl
        have x8:=v8 d8
        clear hoj hall hi
        have hw' : w' = Wa.setCell ⟨g,A.toNat,none⟩ (.bool true):=by rcases hw with h|h|h <;> first|exact h.1|(exfalso;rw [h.2.1] at d7;cases d7;done)|(exfalso;rw [gd_any (by omega) (d':=false),h.2.2] at hun;cases hun;done)
        clear hw;subst hw'
        obtain ⟨c1,c2,c3,⟨ua,c4,c5⟩,⟨uc,c6,c7⟩⟩:=hfive _ (.inr (.inl rfl))
        have AV:=Aside0.mk (And.intro v0 (And.intro v1 (And.intro v2 (And.intro v3 (And.intro v4 (And.intro v5 (And.intro v6 v8)))))))
        clear v0 v1 v2 v3 v4 v5 v6 v8
        unfold Go.wpOpIn
        go_simp
        obtain ⟨v0,v1,v2,v3,v4,v5,v6,v8⟩:=AV.out
        exact ⟨⟨by rw [Array.size_setIfInBounds];exact z1,z2,t3,t7⟩,⟨fun h=>v0 ((gd_ne (by decide)).symm.trans h),fun h=>v1 ((gd_ne (by decide)).symm.trans h),fun h=>v2 ((gd_ne (by decide)).symm.trans h),fun h=>v3 ((gd_ne (by decide)).symm.trans h),fun h=>v4 ((gd_ne (by decide)).symm.trans h),fun h=>v5 ((gd_ne (by decide)).symm.trans h),fun h=>v6 ((gd_ne (by decide)).symm.trans h),fun h=>v8 ((gd_ne (by decide)).symm.trans h)⟩,.inr (.inr ⟨rfl,(gd_ne (by decide)).trans d7,gd_eq (by omega)⟩)⟩
    case done=>
     rintro D xs W hD hxs ⟨l',rfl,hs,_⟩ hK
     have eB : W.cell? ⟨w6.heap.size,0,none⟩ = some (.slice (some ⟨g,0,none⟩) _ cap):=hs.2.1.cell
     rw [hxs] at eB hs
     rw [HR'.out] at eB hs
     go_wp2
     refine ⟨by simp,.inl ⟨_,_,rfl,run_takeDeferred hK,?_⟩⟩
     have hs2:=hs.grown (grownBy_putObj' W D (.deferred none)) (fun r e=>by cases e;exact ⟨Nat.le_trans hw0 hD,_,hK,rfl⟩)
     refine ⟨_,results_tmp rfl _ _ _,?_⟩
     exact ⟨_,rfl,hs2.2.2.1,hs2.2.2.2⟩
    case stop=>
     rintro D c pre W _ _ h _
     exact h.elim
 ·rw [if_neg hok] at h
  cases h
end
/-! ### impl_firsts: function 74 -/
def impl_firsts.l0 : Nat → List Int → Int → Int → Option (List Int)
 | 0,_,_,_=>none
 | k + 1,x3,x6,x7=>if x7 < x6 then (if x3.length < 17592186044416 then (impl_firsts.l0 k (x3 ++ [x7]) x6 (wrap64 (x7 + 1))) else (none)) else (some x3)
def impl_firsts.f (k : Nat) (a0 : Int) : Option (List Int):=impl_firsts.l0 k (([] : List Int)) a0 0
theorem impl_firsts.mono_l : ∀ k,(∀ y0 y1 y2,LeO (impl_firsts.l0 k y0 y1 y2) (impl_firsts.l0 (k + 1) y0 y1 y2))
 | 0=>fun _ _ _ r h=>by simp [impl_firsts.l0] at h
 | k + 1=>by
  have ih0:=impl_firsts.mono_l k
  ·intro y0 y1 y2
   unfold impl_firsts.l0
   repeat' first
   | (with_reducible exact ih0 _ _ _)
   | (with_reducible exact LeO.refl _)
   | (with_reducible exact LeO.none _)
   | (with_reducible refine LeO.ite ?_ ?_)
   | (with_reducible refine LeO.bind ?_ (fun _=>?_))
   | exact ih0 _ _ _
   | exact LeO.none _
   | refine LeO.ite ?_ ?_
   | refine LeO.bind ?_ (fun _=>?_)
theorem impl_firsts.mono : ∀ a0 k,LeO (impl_firsts.f k a0) (impl_firsts.f (k + 1) a0):=by
 intro a0 k
 have ih0:=impl_firsts.mono_l k
 unfold impl_firsts.f
 repeat' first
   | (with_reducible exact ih0 _ _ _)
   | (with_reducible exact LeO.refl _)
   | (with_reducible exact LeO.none _)
   | (with_reducible refine LeO.ite ?_ ?_)
   | (with_reducible refine LeO.bind ?_ (fun _=>?_))
   | exact ih0 _ _ _
   | exact LeO.none _
   | refine LeO.ite ?_ ?_
   | refine LeO.bind ?_ (fun _=>?_)
set_option maxHeartbeats 8000000 in
set_option maxRecDepth 100000 in
theorem impl_firsts.calls (k : Nat) (a0 : Int) (r : List Int) (w : World) (h : impl_firsts.f k a0 = some r) :
  Calls Try.prog 74 #[.int .i64 a0] w fun e w'=>∃ v0_ : Value,e = .returned (v0_) ∧ Kd.R (Kd.int .i64) 3 w' w.heap.size (fun _=>True) v0_ r ∧ Below w.heap.size w w':=by
 have HB:=Aside0.mk (Below.refl w.heap.size w)
 have H : (impl_firsts.l0 k (([] : List Int)) a0 0) = some r:=h
 clear h
 obtain ⟨y356,hy356⟩ : ∃ y_ : List Int,y_ = (([] : List Int)):=⟨_,rfl⟩
 replace H : (impl_firsts.l0 k y356 a0 0) = some r:=by first|(rw [hy356];with_reducible exact H)|(have H2_:=(Option.bind_some _ _).symm.trans H;rw [hy356];with_reducible exact H2_)|(have H2_:=(Option.bind_some _ _).symm.trans H;with_reducible exact H2_)|with_reducible exact H|(rw [hy356];exact H)|exact H
 have Ny356:=Aside0.mk hy356
 clear hy356
 have H':=Aside0.mk H
 clear H
 go_enter Try.func74,Try.ntmps74
 go_wp2_with (first|((with_reducible refine gate_dst (N:=5) rfl ?_);refine Kd.R_lit (Kd.int .i64) _ 3 ?hg (N:=5) ?hd (xs:=([] : List Int)) (inner:=[]) (ok:=fun _=>True) (okp:=fun _=>True) ?hr ?hp (fun _ hk=>hk) trivial (Below.refl _ _) (Nat.le_refl _) (by simp) ?_;(case hd=>rfl);(case hg=>rfl);(case hr=>first|(go_simp;done)|(go_simp;rfl));(case hp=>exact (Reps.none _ _));intro v357 w2 ho3 hb hg_ hnew_;clear hg_ hnew_;(first|rw [← Ny356.out] at ho3|(simp only [Int.reduceToNat] at ho3;rw [← Ny356.out] at ho3));have n0_:=Aside0.mk (Kd.R_lower ho3 (below_size bz));have n1_:=Aside0.mk (below_step bz hb);clear HB;have HO358:=n0_;have HB:=n1_;clear n0_ n1_;clear hb ho3))
 go_loopg [3,7] k (fun kq v3 v7 w'=>∃ (x3_1 : List Int) (x7_1 : Int),v7 = .int .i64 x7_1 ∧ Aside0 (impl_firsts.l0 kq x3_1 a0 x7_1 = some r) ∧ Aside0 (kq ≤ k) ∧ Aside0 (Kd.R (Kd.int .i64) 3 w' w.heap.size (fun _=>True) v3 x3_1) ∧ Aside0 (Below w.heap.size w w'))
 case atStart=>exact ⟨(y356),(0),fz,H',⟨Nat.le_refl _⟩,⟨by (with_reducible repeat (first|apply Kd.R_alloc|apply Kd.R_drewN|apply Kd.R_drew));exact HO358.out⟩,⟨by repeat (first|(with_reducible first|exact HB.out|apply below_alloc|apply pw_below_drewN|apply below_drew1)|exact HB.out)⟩⟩
 case round=>
  clear H'
  try clear p2
  obtain ⟨x3_1,x7_1,rfl,HA,HK1,HO_3,HB⟩:=hrel
  cases gk with
  | zero=>exact absurd HA.out (by simp [impl_firsts.l0])
  | succ k1=>
   have H:=HA.out
   clear HA
   simp only [impl_firsts.l0] at H
   by_cases c4 : x7_1 < a0
   ·rw [if_pos c4] at H
    have c4b0 : decide (x7_1 < a0) = true:=decide_eq_true c4
    clear c4
    by_cases c5 : x3_1.length < 17592186044416
    ·rw [if_pos c5] at H
     have LMc5:=Aside0.mk c5
     clear c5
     obtain ⟨y359,hy359⟩ : ∃ y_ : List Int,y_ = (x3_1 ++ [x7_1]):=⟨_,rfl⟩
     replace H : (impl_firsts.l0 k1 y359 a0 (wrap64 (x7_1 + 1))) = some r:=by first|(rw [hy359];with_reducible exact H)|(have H2_:=(Option.bind_some _ _).symm.trans H;rw [hy359];with_reducible exact H2_)|(have H2_:=(Option.bind_some _ _).symm.trans H;with_reducible exact H2_)|with_reducible exact H|(rw [hy359];exact H)|exact H
     have Ny359:=Aside0.mk hy359
     clear hy359
     have H':=Aside0.mk H
     clear H
     go_wp2_with (first|((with_reducible refine gate_builtin (b:=.append) (xs:=#[.tmp 10,.tmp 12]) rfl ?_);at_builtin;refine Kd.R_append (Kd.int .i64) (w0:=w) w.heap.size rfl (.tmp 10) (.tmp 12) 24 3 (.int .i64 0) 8 rfl Try.underlying24 info3 rfl (by decide) (by omega) u3 x3_1 x7_1 [.int .i64 x7_1] (fun _=>True) (fun _=>False) rfl rfl ?aP (fun _ hk=>hk.elim) ?aF ?aO ?aB ?aS ?aL ?_;(case aP=>exact rfl);(case aB=>exact bz);(case aF=>exact (fun _ _=>trivial));(case aO=>exact (rz HO_3.out));(case aS=>exact (below_size bz));(case aL=>have:=LMc5.out;omega);intro v360 w6 ho hb hg hat;rw [← Ny359.out] at ho;have n0_:=Aside0.mk (hb);have n1_:=Aside0.mk (ho);clear HB HO_3;have HB:=n0_;have HO361:=n1_;clear n0_ n1_;clear ho hb hg hat))
     go_roundg k1
     case measure=>have:=HK1.out;omega
     case rel=>exact ⟨(y359),(wrap64 (x7_1 + 1)),fz,H',⟨by have:=HK1.out;omega⟩,⟨by (with_reducible repeat (first|apply Kd.R_alloc|apply Kd.R_drewN|apply Kd.R_drew));exact HO361.out⟩,⟨by repeat (first|(with_reducible first|exact HB.out|apply below_alloc|apply pw_below_drewN|apply below_drew1)|exact HB.out)⟩⟩
    ·rw [if_neg c5] at H
     exact absurd H (by simp)
   ·rw [if_neg c4] at H
    have c4b0 : decide (x7_1 < a0) = false:=decide_eq_false c4
    clear c4
    obtain rfl:=Option.some.inj H
    go_wp2
    go_ret
    exact ⟨_,by first|rfl|(simp [errW_none,errW_some] <;> rfl)|(simp [*,errW_none,errW_some] <;> rfl),by (with_reducible repeat (first|apply Kd.R_alloc|apply Kd.R_drewN|apply Kd.R_drew));exact HO_3.out,by repeat (first|(with_reducible first|exact HB.out|apply below_alloc|apply pw_below_drewN|apply below_drew1)|exact HB.out)⟩
/-! ### impl_step: function 76 -/
def impl_step.f (a0 : Int) (a1 : Int) : Option (Int × Int):=some (mn a0 a1,mx a0 a1)
set_option maxHeartbeats 8000000 in
set_option maxRecDepth 100000 in
theorem impl_step.calls (a0 : Int) (a1 : Int) (r1 : Int) (r2 : Int) (w : World) (h : impl_step.f a0 a1 = some (r1,r2)) :
  Calls Try.prog 76 #[.int .i64 a0,.int .i64 a1] w fun e w'=>e = .returned (.agg #[.int .i64 r1,.int .i64 r2]) ∧ Below w.heap.size w w':=by
 have hu56:=Try.underlying56
 have HB:=Aside0.mk (Below.refl w.heap.size w)
 have H : (some (mn a0 a1,mx a0 a1)) = some (r1,r2):=h
 clear h
 obtain ⟨ji3,hji3⟩ : ∃ j_ : Int,(mn a0 a1) = j_:=⟨_,rfl⟩
 replace H : (some (ji3,mx a0 a1)) = some (r1,r2):=by first|(rw [hji3] at H;exact H)|(simp only [hji3] at H ⊢;exact H)
 have hji3_ : (if a1 < a0 then a1 else a0) = ji3:=hji3
 obtain ⟨ji4,hji4⟩ : ∃ j_ : Int,(mx a0 a1) = j_:=⟨_,rfl⟩
 replace H : (some (ji3,ji4)) = some (r1,r2):=by first|(rw [hji4] at H;exact H)|(simp only [hji4] at H ⊢;exact H)
 have hji4_ : (if a0 < a1 then a1 else a0) = ji4:=hji4
 simp only [Option.some.injEq,Prod.mk.injEq] at H
 obtain ⟨rfl,rfl⟩:=H
 go_enter Try.func76,Try.ntmps76
 go_wp2_with (first|((with_reducible refine gate_dst (N:=4) rfl ?_);refine box_event ?hg (N:=4) ?hd (cs:=#[.int .i64 0,.int .i64 0]) (t:=56) ?hr ?_;(case hd=>rfl);(case hg=>rfl);(case hr=>first|(go_simp;done)|(go_simp;rfl));intro gb362 hg w5 hbox hb;have n0_:=Aside0.mk (below_step bz hb);have n1_:=Aside0.mk (hbox);have n2_:=Aside0.mk ((by rw [hg];exact (below_size bz) : w.heap.size ≤ gb362));have n3_:=Aside0.mk ((by rw [hg];exact (below_size bz) : w.heap.size ≤ gb362));clear HB;have HB:=n0_;have BK362:=n1_;have GW362:=n2_;have GE362:=n3_;clear n0_ n1_ n2_ n3_;clear hb hbox hg;have hcz6_0 : w5.cell? ⟨gb362,0,none⟩ = some (.int .i64 0):=(blk_cell BK362.out 0).trans rfl;have hcz6_1 : w5.cell? ⟨gb362,1,none⟩ = some (.int .i64 0):=(blk_cell BK362.out 1).trans rfl;have hfz6_0:=blk_frozen BK362.out 0;have hfz6_1:=blk_frozen BK362.out 1))
 refine bodyPost_ret (results_cell_row rfl _ _ gb362 56 #[.int .i64 ji3,.int .i64 ji4] (0,0) _ rfl (by (with_reducible repeat (first|refine blk_drewN ?_ _|refine blk_drew ?_|refine blk_alloc ?_ _));refine blk_put (cs:=#[.int .i64 ji3,.int .i64 0]) ?_ 1 _ rfl;(with_reducible repeat (first|refine blk_drewN ?_ _|refine blk_drew ?_|refine blk_alloc ?_ _));refine blk_put (cs:=#[.int .i64 0,.int .i64 0]) ?_ 0 _ rfl;(with_reducible repeat (first|refine blk_drewN ?_ _|refine blk_drew ?_|refine blk_alloc ?_ _));exact BK362.out) Try.underlying56 rfl (by kernel_rfl)) rfl ?_
 exact ⟨by first|rfl|(simp [errW_none,errW_some] <;> rfl)|(simp only [← hji3,← hji4];first|rfl|(simp [errW_none,errW_some] <;> rfl))|(simp [*,errW_none,errW_some] <;> rfl),by repeat (first|(with_reducible first|exact HB.out|apply below_alloc|apply pw_below_drewN|apply below_drew1|refine below_set ?_ GE362.out)|exact HB.out)⟩
end Go.Proofs.Ytlefjgpkabijdaa.MFnNeededParts
--sq
