import Derived.Test.YtdcdaoancmpbeaaMFnExactReorderStepsx0
import Derived.Test.YtdcdaoancmpbeaaMFnExactReorderStepsx9
import Derived.Test.YtdcdaoancmpbeaaMFnExactReorderStepsx1
import Derived.Test.YtdcdaoancmpbeaaMFnExactReorderStepsx2
import Derived.Test.YtdcdaoancmpbeaaMFnExactReorderStepsx3
import Derived.Test.YtdcdaoancmpbeaaMFnExactReorderStepsx4
import Derived.Test.YtdcdaoancmpbeaaMFnExactReorderStepsx5
import Derived.Test.YtdcdaoancmpbeaaMFnExactReorderStepsx6
import Derived.Test.YtdcdaoancmpbeaaMFnExactReorderStepsx7
import Derived.Test.YtdcdaoancmpbeaaMFnExactReorderStepsx8
namespace Go.Proofs.Ytdcdaoancmpbeaa.MFnExactReorderSteps
open Go.RowKit Go.Proofs.YtdcdaoancmpbeaaW.PrintWords Go.Proofs.YtdcdaoancmpbeaaW.PrintLast Go.Proofs.YtdcdaoancmpbeaaW.PrintMore Go.Proofs.YtdcdaoancmpbeaaV Go.Proofs.YtdcdaoancmpbeaaZ
attribute [local go_sem] max2_int min2_int max_two min_two max_three min_three max_four min_four   -- for this text's walks alone
set_option linter.unusedVariables false
set_option linter.unusedSimpArgs false
/-! ### impl_IsPlan: function 44 -/
def impl_IsPlan.steps (n : Int) (ss : List (S73)) : Nat → Nat → Bool
 | 0,_=>true
 | d + 1,i=>if (rd_T73 ss i).f0 < 0 then false else if (rd_T73 ss i).f0 > (rd_T73 ss i).f1 then false else if (rd_T73 ss i).f1 ≥ n + i then false else impl_IsPlan.steps n ss d (i + 1)
def impl_IsPlan.outs (n : Int) (ss : List (S73)) (os : List Int) (j : Nat) : Bool:=!(decide (0 ≤ rd os j) && decide (rd os j ≤ n + ss.length - 1))
def impl_IsPlan.formed (n : Int) (ss : List (S73)) (os : List Int) : Bool:=
 if 1 ≤ n ∧ n ≤ 6 then (if ss.length ≤ 40 then (if os.length ≤ 6 then (if impl_IsPlan.steps n ss ss.length 0 = true then !(Go.Proofs.YtdcdaoancmpbeaaH.anyIx (impl_IsPlan.outs n ss os) os.length 0) else false) else false) else false) else false
def impl_IsPlan.IsP (w0 W : World) (g : Nat) (n : Int) (ss : List (S73)) (os : List Int) : Prop:=∃ A1 c1 A2 c2,W.heap[g]? = some (.cells #[.int .i64 n,.slice A1 ss.length c1,.slice A2 os.length c2] 29 (0,0)) ∧ w0.heap.size ≤ g ∧ Kd.C k73 w0 A1 ss.length ss ∧ Kd.C (Kd.int .i64) w0 A2 os.length os
theorem impl_IsPlan.IsP.below {w0 W W1 : World} {g : Nat} {n : Int} {ss : List (S73)} {os : List Int} (h : impl_IsPlan.IsP w0 W g n ss os) (hw : Below W.heap.size W W1) : impl_IsPlan.IsP w0 W1 g n ss os:=by
 obtain ⟨A1,c1,A2,c2,hb,r⟩:=h
 exact ⟨A1,c1,A2,c2,(hw.block g (blk_lt hb)).trans hb,r⟩
set_option maxHeartbeats 2000000 in
set_option maxRecDepth 100000 in
theorem impl_IsPlan.many_reads (g : Nat) (n : Int) (ss : List S73) (os : List Int) (w0 w : World) (hI : impl_IsPlan.IsP w0 w g n ss os) :
  Calls Try.prog 92 #[.pointer (some ⟨g,0,none⟩)] w fun e w'=>e = .returned (.int .i64 (wrap64 (n + ss.length))) ∧ Drawn0 w w':=by
 obtain ⟨A1,c1,A2,c2,HG,hge,HS1,HS2⟩:=hI
 have hc0 : w.cell? ⟨g,0,none⟩ = some (.int .i64 n):=(blk_cell HG 0).trans rfl
 have hc1 : w.cell? ⟨g,1,none⟩ = some (.slice A1 ss.length c1):=(blk_cell HG 1).trans rfl
 have hc2 : w.cell? ⟨g,2,none⟩ = some (.slice A2 os.length c2):=(blk_cell HG 2).trans rfl
 have hf:=blk_frozen HG 0
 clear HG hge
 go_enter Try.func92,Try.ntmps92
 go_wp2
 repeat (go_quiet (fail);try go_wp2)
 go_ret
 exact ⟨rfl,by repeat (first|exact Drawn0.refl _|apply Drawn0.step)⟩
set_option maxHeartbeats 2000000 in
set_option maxRecDepth 100000 in
theorem impl_IsPlan.out_calls (B g : Nat) (n : Int) (ss : List S73) (os : List Int) (w0 w : World) (v : Int) (hI : impl_IsPlan.IsP w0 w g n ss os) (hc : w.cell? ⟨B,0,none⟩ = some (.pointer (some ⟨g,0,none⟩))) (h1 : 1 ≤ n) (h2 : n ≤ 6) (h3 : ss.length ≤ 40) :
  Calls Try.prog 119 #[.int .i64 v,.pointer (some ⟨B,0,none⟩)] w fun e w'=>e = .returned (.bool (!(decide (0 ≤ v) && decide (v ≤ n + ss.length - 1)))) ∧ Below w.heap.size w w':=by
 obtain ⟨r,hr⟩ : ∃ r,r = (decide (0 ≤ v) && decide (v ≤ n + ss.length - 1)):=⟨_,rfl⟩
 have hin : impl_in.f v 0 (n + ss.length - 1) = some r:=by
  unfold impl_in.f
  by_cases c : v ≥ 0
  ·rw [if_pos c,hr,decide_eq_true (show 0 ≤ v from c),Bool.true_and]
  ·rw [if_neg c,hr,decide_eq_false (show ¬ 0 ≤ v from c),Bool.false_and]
 rw [← hr]
 have HM:=Aside0.mk (impl_IsPlan.many_reads g n ss os w0 w hI)
 have HIN:=Aside0.mk hin
 clear hr hin hI
 have e1 : wrap64 (n + (ss.length : Int)) = n + ss.length:=by unfold wrap64;omega
 have e2 : wrap64 (n + (ss.length : Int) - 1) = n + ss.length - 1:=by unfold wrap64;omega
 generalize n + (ss.length : Int) = m at *
 go_enter Try.func119,Try.ntmps119
 go_wp2_with (first|(go_at_call 92;refine HM.out.mono ?_;rw [e1];rintro e w1 ⟨rfl,hd1⟩;have HD1:=Aside0.mk hd1;clear hd1)|(go_at_call 100;refine (impl_in.calls _ _ _ r _ (by first|exact HIN.out|(rw [e2];exact HIN.out))).mono ?_;rintro e w2 ⟨rfl,hd2⟩;have HD2:=Aside0.mk hd2;clear hd2))
 go_ret
 exact ⟨rfl,HD1.out.below.trans (HD2.out.below.mono HD1.out.below.size)⟩
set_option maxHeartbeats 2000000 in
set_option maxRecDepth 100000 in
theorem impl_IsPlan.formed_calls (g : Nat) (n : Int) (ss : List S73) (os : List Int) (w0 w : World) (hI : impl_IsPlan.IsP w0 w g n ss os) (hB : Below w0.heap.size w0 w) :
  Calls Try.prog 86 #[.pointer (some ⟨g,0,none⟩)] w fun e w'=>e = .returned (.bool (impl_IsPlan.formed n ss os)) ∧ Below w.heap.size w w':=by
 obtain ⟨r,hr⟩ : ∃ r,r = impl_IsPlan.formed n ss os:=⟨_,rfl⟩
 rw [← hr]
 unfold impl_IsPlan.formed at hr
 obtain ⟨A1,cc1,A2,cc2,HG,hge,HS1,HS2⟩:=id hI
 have hc0 : w.cell? ⟨g,0,none⟩ = some (.int .i64 n):=(blk_cell HG 0).trans rfl
 have hc1 : w.cell? ⟨g,1,none⟩ = some (.slice A1 ss.length cc1):=(blk_cell HG 1).trans rfl
 have hc2 : w.cell? ⟨g,2,none⟩ = some (.slice A2 os.length cc2):=(blk_cell HG 2).trans rfl
 have HI:=Aside0.mk hI
 clear HG hI hge
 by_cases c1 : 1 ≤ n ∧ n ≤ 6
 ·rw [if_pos c1] at hr
  have HIN:=Aside0.mk (show impl_in.f n 1 6 = some true by unfold impl_in.f;rw [if_pos c1.1,decide_eq_true c1.2])
  by_cases c2 : ss.length ≤ 40
  ·rw [if_pos c2] at hr
   have b2 : decide ((40 : Int) < (ss.length : Int)) = false:=by rw [decide_eq_false_iff_not];omega
   by_cases c3 : os.length ≤ 6
   ·rw [if_pos c3] at hr
    have b3 : decide ((6 : Int) < (os.length : Int)) = false:=by rw [decide_eq_false_iff_not];omega
    have HR:=Aside0.mk hr
    clear hr
    have HS:=Aside0.mk HS1
    have HO:=Aside0.mk HS2
    have HBB:=Aside0.mk hB
    clear HS1 HS2 hB
    go_enter Try.func86,Try.ntmps86
    go_wp2_with (first|((with_reducible refine gate_dst (N:=1) rfl ?_);refine box_event ?hg (N:=1) ?hd (cs:=#[.pointer (some ⟨g,0,none⟩)]) (t:=64) ?hr ?_;(case hd=>rfl);(case hg=>rfl);(case hr=>first|(go_simp;done)|(go_simp;rfl));intro gb hg w4 hbox hb;have d0:=pw_cell_below hb hc0;have d1:=pw_cell_below hb hc1;have d2:=pw_cell_below hb hc2;have db : w4.cell? ⟨gb,0,none⟩ = some (.pointer (some ⟨g,0,none⟩)):=(blk_cell hbox 0).trans rfl;have HGB:=Aside0.mk hg;have HB:=Aside0.mk hb;clear hb hbox hg)|(go_at_call 100;refine (impl_in.calls _ _ _ _ _ HIN.out).mono ?_;rintro e w2 ⟨rfl,hd2⟩;have HD2:=Aside0.mk hd2.below;replace d0:=pw_cell_below hd2.below d0;replace d1:=pw_cell_below hd2.below d1;replace d2:=pw_cell_below hd2.below d2;replace db:=pw_cell_below hd2.below db;clear hd2))
    go_loopg [32] ss.length (fun gg s32 wr=>∃ kk : Nat,Aside0 (kk ≤ ss.length ∧ ss.length - kk ≤ gg ∧ (r = if impl_IsPlan.steps n ss (ss.length - kk) kk = true then !(Go.Proofs.YtdcdaoancmpbeaaH.anyIx (impl_IsPlan.outs n ss os) os.length 0) else false) ∧ Below w2.heap.size w2 wr) ∧ s32 = .int .i64 kk)
    case atStart=>exact ⟨0,⟨⟨Nat.zero_le _,by omega,HR.out,Below.refl _ _⟩⟩,rfl⟩
    case round=>
     obtain ⟨kk,HK,rfl⟩:=hrel
     obtain ⟨h1,h2,h3,hb⟩:=HK.out
     clear HK
     have HB2:=Aside0.mk ((HBB.out.trans (HB.out.mono HBB.out.size)).trans (HD2.out.mono (Nat.le_trans HBB.out.size HB.out.size)))
     replace d0:=pw_cell_below hb d0
     replace d1:=pw_cell_below hb d1
     replace d2:=pw_cell_below hb d2
     replace db:=pw_cell_below hb db
     by_cases hlt : kk < ss.length
     ·have hltz : (kk : Int) < (ss.length : Int):=by omega
      obtain ⟨ad,e1,hx0,hx1⟩:=at_T73 HS.out (kk : Int) (by omega) hltz
      subst e1
      rw [Int.toNat_natCast] at hx0 hx1
      replace hx0:=pw_cell_below hb (pw_cell_below HB2.out hx0)
      replace hx1:=pw_cell_below hb (pw_cell_below HB2.out hx1)
      obtain ⟨m,hm⟩ : ∃ m,ss.length - kk = m + 1:=⟨ss.length - kk - 1,by omega⟩
      rw [hm,impl_IsPlan.steps] at h3
      generalize (rd_T73 ss kk).f0 = a at *
      generalize (rd_T73 ss kk).f1 = b at *
      have HBR:=Aside0.mk hb
      have HM:=Aside0.mk hm
      have H2:=Aside0.mk h2
      have e2 : wrap64 (n + (kk : Int)) = n + kk:=by unfold wrap64;omega
      have HW:=Aside0.mk (HB.out.trans (HD2.out.mono HB.out.size))
      have d0a : (wr.alloc (Obj.cells #[.int .i64 a,.int .i64 b] 73)).cell? ⟨g,0,none⟩ = some (.int .i64 n):=pw_cell_below (below_alloc (Below.refl _ _) _) d0
      have dba : (wr.alloc (Obj.cells #[.int .i64 a,.int .i64 b] 73)).cell? ⟨gb,0,none⟩ = some (.pointer (some ⟨g,0,none⟩)):=pw_cell_below (below_alloc (Below.refl _ _) _) db
      clear hb hm h2
      by_cases k1 : a < 0
      ·rw [if_pos k1] at h3
       have H3:=Aside0.mk (show r = false from h3)
       clear h3
       have b4 : decide (a < 0) = true:=decide_eq_true k1
       go_wp2
       repeat (go_quiet (fail);try go_wp2)
       go_ret
       refine ⟨by rw [H3.out];rfl,HW.out.trans (Below.mono ?_ HW.out.size)⟩
       repeat (first|exact HBR.out|apply below_alloc|apply below_drew1|apply pw_below_drewN)
      ·rw [if_neg k1] at h3
       have b4 : decide (a < 0) = false:=decide_eq_false k1
       by_cases k2 : a > b
       ·rw [if_pos k2] at h3
        have H3:=Aside0.mk (show r = false from h3)
        clear h3
        have b5 : decide (b < a) = true:=decide_eq_true k2
        go_wp2
        repeat (go_quiet (fail);try go_wp2)
        go_ret
        refine ⟨by rw [H3.out];rfl,HW.out.trans (Below.mono ?_ HW.out.size)⟩
        repeat (first|exact HBR.out|apply below_alloc|apply below_drew1|apply pw_below_drewN)
       ·rw [if_neg k2] at h3
        have b5 : decide (b < a) = false:=decide_eq_false k2
        by_cases k3 : b ≥ n + kk
        ·rw [if_pos k3] at h3
         have H3:=Aside0.mk (show r = false from h3)
         clear h3
         have b6 : decide (n + (kk : Int) ≤ b) = true:=decide_eq_true k3
         have b7 : decide (wrap64 (n + (kk : Int)) ≤ b) = true:=by rw [e2];exact b6
         go_wp2
         repeat (go_quiet (fail);try go_wp2)
         go_ret
         refine ⟨by rw [H3.out];rfl,HW.out.trans (Below.mono ?_ HW.out.size)⟩
         repeat (first|exact HBR.out|apply below_alloc|apply below_drew1|apply pw_below_drewN)
        ·rw [if_neg k3] at h3
         have H3:=Aside0.mk h3
         clear h3
         have b6 : decide (n + (kk : Int) ≤ b) = false:=decide_eq_false k3
         have b7 : decide (wrap64 (n + (kk : Int)) ≤ b) = false:=by rw [e2];exact b6
         go_wp2
         repeat (go_quiet (fail);try go_wp2)
         go_roundg (ss.length - (kk + 1))
         case measure=>have:=H2.out;have:=HM.out;omega
         case rel=>
          refine ⟨kk + 1,⟨⟨by omega,by omega,?_,?_⟩⟩,by go_num⟩
          ·rw [show ss.length - (kk + 1) = m by have:=HM.out;omega]
           exact H3.out
          ·repeat (first|exact HBR.out|apply below_alloc|apply below_drew1|apply pw_below_drewN)
     ·have hltz : ¬ (kk : Int) < (ss.length : Int):=by omega
      obtain rfl : kk = ss.length:=by omega
      rw [Nat.sub_self,impl_IsPlan.steps,if_pos rfl] at h3
      have HBR:=Aside0.mk hb
      have H3:=Aside0.mk h3
      have HW:=Aside0.mk (HB.out.trans (HD2.out.mono HB.out.size))
      have HA:=fun (hp : 0 < os.length)=>(show ∃ ad : Addr,A2 = some ad ∧ ∀ j,j < os.length → wr.cell? (ad.add j) = some (Value.int .i64 (rd os j)) from by
       obtain ⟨ad,e,_⟩:=Kd.at_int HO.out (0 : Int) (by omega) (by omega)
       subst e
       refine ⟨ad,rfl,fun j hj=>?_⟩
       obtain ⟨ad',e',h'⟩:=Kd.at_int HO.out (j : Int) (by omega) (by omega)
       obtain rfl : ad = ad':=by injection e'
       rw [Int.toNat_natCast] at h'
       exact pw_cell_below hb (pw_cell_below HB2.out h'))
      have HP:=fun (j : Nat) (hj : j < os.length) (W : World) (hW : Below wr.heap.size wr W)=>impl_IsPlan.out_calls gb g n ss os w0 W (rd os j) (impl_IsPlan.IsP.below (impl_IsPlan.IsP.below (impl_IsPlan.IsP.below (impl_IsPlan.IsP.below HI.out HB.out) HD2.out) hb) hW) (pw_cell_below hW db) c1.1 c1.2 c2
      have HC:=Aside0.mk (Go.Proofs.YtdcdaoancmpbeaaH.contains_f125 wr A2 os.length cc2 (fun j=>.int .i64 (rd os j)) (impl_IsPlan.outs n ss os) 119 #[.pointer (some ⟨gb,0,none⟩)] (enters_of Try.func119 (by kernel_rfl) rfl) (by omega) HA HP)
      clear h3 hb HA HP h2
      go_wp2_with (go_at_call 118;refine HC.out.mono ?_;rintro e w6 ⟨rfl,hb6⟩;have HB6:=Aside0.mk hb6;clear hb6)
      go_ret
      refine ⟨?_,HW.out.trans ((HBR.out.trans (HB6.out.mono HBR.out.size)).mono HW.out.size)⟩
      rw [H3.out]
      rfl
   ·rw [if_neg c3] at hr
    subst hr
    have b3 : decide ((6 : Int) < (os.length : Int)) = true:=by rw [decide_eq_true_iff];omega
    clear HS1 HS2 hB
    go_enter Try.func86,Try.ntmps86
    go_wp2_with (first|((with_reducible refine gate_dst (N:=1) rfl ?_);refine box_event ?hg (N:=1) ?hd (cs:=#[.pointer (some ⟨g,0,none⟩)]) (t:=64) ?hr ?_;(case hd=>rfl);(case hg=>rfl);(case hr=>first|(go_simp;done)|(go_simp;rfl));intro gb hg w4 hbox hb;have d0:=pw_cell_below hb hc0;have d1:=pw_cell_below hb hc1;have d2:=pw_cell_below hb hc2;have db : w4.cell? ⟨gb,0,none⟩ = some (.pointer (some ⟨g,0,none⟩)):=(blk_cell hbox 0).trans rfl;have HGB:=Aside0.mk hg;have HB:=Aside0.mk hb;clear hb hbox hg)|(go_at_call 100;refine (impl_in.calls _ _ _ _ _ HIN.out).mono ?_;rintro e w2 ⟨rfl,hd2⟩;have HD2:=Aside0.mk hd2.below;replace d0:=pw_cell_below hd2.below d0;replace d1:=pw_cell_below hd2.below d1;replace d2:=pw_cell_below hd2.below d2;replace db:=pw_cell_below hd2.below db;clear hd2))
    go_ret
    exact ⟨rfl,HB.out.trans (HD2.out.mono HB.out.size)⟩
  ·rw [if_neg c2] at hr
   subst hr
   have b2 : decide ((40 : Int) < (ss.length : Int)) = true:=by rw [decide_eq_true_iff];omega
   clear HS1 HS2 hB
   go_enter Try.func86,Try.ntmps86
   go_wp2_with (first|((with_reducible refine gate_dst (N:=1) rfl ?_);refine box_event ?hg (N:=1) ?hd (cs:=#[.pointer (some ⟨g,0,none⟩)]) (t:=64) ?hr ?_;(case hd=>rfl);(case hg=>rfl);(case hr=>first|(go_simp;done)|(go_simp;rfl));intro gb hg w4 hbox hb;have d0:=pw_cell_below hb hc0;have d1:=pw_cell_below hb hc1;have d2:=pw_cell_below hb hc2;have db : w4.cell? ⟨gb,0,none⟩ = some (.pointer (some ⟨g,0,none⟩)):=(blk_cell hbox 0).trans rfl;have HGB:=Aside0.mk hg;have HB:=Aside0.mk hb;clear hb hbox hg)|(go_at_call 100;refine (impl_in.calls _ _ _ _ _ HIN.out).mono ?_;rintro e w2 ⟨rfl,hd2⟩;have HD2:=Aside0.mk hd2.below;replace d0:=pw_cell_below hd2.below d0;replace d1:=pw_cell_below hd2.below d1;replace d2:=pw_cell_below hd2.below d2;replace db:=pw_cell_below hd2.below db;clear hd2))
   go_ret
   exact ⟨rfl,HB.out.trans (HD2.out.mono HB.out.size)⟩
 ·rw [if_neg c1] at hr
  subst hr
  have HIN:=Aside0.mk (show impl_in.f n 1 6 = some false by unfold impl_in.f;by_cases h : n ≥ 1;rw [if_pos h,decide_eq_false (by omega)];rw [if_neg h])
  clear HS1 HS2 hB
  go_enter Try.func86,Try.ntmps86
  go_wp2_with (first|((with_reducible refine gate_dst (N:=1) rfl ?_);refine box_event ?hg (N:=1) ?hd (cs:=#[.pointer (some ⟨g,0,none⟩)]) (t:=64) ?hr ?_;(case hd=>rfl);(case hg=>rfl);(case hr=>first|(go_simp;done)|(go_simp;rfl));intro gb hg w4 hbox hb;have d0:=pw_cell_below hb hc0;have d1:=pw_cell_below hb hc1;have d2:=pw_cell_below hb hc2;have db : w4.cell? ⟨gb,0,none⟩ = some (.pointer (some ⟨g,0,none⟩)):=(blk_cell hbox 0).trans rfl;have HGB:=Aside0.mk hg;have HB:=Aside0.mk hb;clear hb hbox hg)|(go_at_call 100;refine (impl_in.calls _ _ _ _ _ HIN.out).mono ?_;rintro e w2 ⟨rfl,hd2⟩;have HD2:=Aside0.mk hd2.below;replace d0:=pw_cell_below hd2.below d0;replace d1:=pw_cell_below hd2.below d1;replace d2:=pw_cell_below hd2.below d2;replace db:=pw_cell_below hd2.below db;clear hd2))
  go_ret
  exact ⟨rfl,HB.out.trans (HD2.out.mono HB.out.size)⟩
/-- Is some row's greatest number too great. -/
def impl_IsPlan.top (k : Nat) : List (List Int) → Option Bool
 | []=>some false
 | x :: xs=>(slices_Max_int_int.f k x).bind fun m=>(impl_IsPlan.top k xs).bind fun b=>some (decide (m > 1000000) || b)
theorem impl_IsPlan.top_mono : ∀ (k : Nat) (xs : List (List Int)),LeO (impl_IsPlan.top k xs) (impl_IsPlan.top (k + 1) xs)
 | _,[]=>LeO.refl _
 | k,x :: xs=>LeO.bind (slices_Max_int_int.mono _ _) (fun _=>LeO.bind (impl_IsPlan.top_mono k xs) (fun _=>LeO.refl _))
def impl_IsPlan.pv (k : Nat) (rows : List (List Int)) (j : Nat) : Bool:=match slices_Max_int_int.f k (Go.Proofs.YtdcdaoancmpbeaaH.rdRow rows j) with
 | some m=>decide (m > 1000000)
 | none=>false
theorem impl_IsPlan.top_any (k : Nat) (rows : List (List Int)) : ∀ (xs : List (List Int)) (i : Nat) (b : Bool),(∀ j : Nat,j < xs.length → Go.Proofs.YtdcdaoancmpbeaaH.rdRow rows ((i + j : Nat) : Int) = xs.getD j []) → impl_IsPlan.top k xs = some b → (∀ j : Nat,j < xs.length → ∃ m,slices_Max_int_int.f k (Go.Proofs.YtdcdaoancmpbeaaH.rdRow rows ((i + j : Nat) : Int)) = some m) ∧ Go.Proofs.YtdcdaoancmpbeaaH.anyIx (impl_IsPlan.pv k rows) xs.length i = b
 | [],i,b,_,h=>by
  rw [impl_IsPlan.top] at h
  exact ⟨fun j hj=>absurd hj (Nat.not_lt_zero _),Option.some.inj h⟩
 | x :: xs,i,b,hx,h=>by
  rw [impl_IsPlan.top] at h
  obtain ⟨m,h1,h⟩:=Option.bind_eq_some_iff.mp h
  obtain ⟨b',h2,h⟩:=Option.bind_eq_some_iff.mp h
  have h0:=hx 0 (Nat.succ_pos _)
  rw [Nat.add_zero] at h0
  have hg : (x :: xs).getD 0 [] = x:=rfl
  rw [hg] at h0
  obtain ⟨k1,k2⟩:=impl_IsPlan.top_any k rows xs (i + 1) b' (fun j hj=>by
   have:=hx (j + 1) (Nat.succ_lt_succ hj)
   rw [show i + 1 + j = i + (j + 1) by omega,this];rfl) h2
  refine ⟨fun j hj=>?_,?_⟩
  ·cases j with
   | zero=>exact ⟨m,by rw [Nat.add_zero,h0];exact h1⟩
   | succ j=>
    have:=k1 j (Nat.lt_of_succ_lt_succ hj)
    rwa [show i + 1 + j = i + (j + 1) by omega] at this
  ·have hp : impl_IsPlan.pv k rows i = decide (m > 1000000):=by unfold impl_IsPlan.pv;rw [h0,h1]
   rw [List.length_cons,Go.Proofs.YtdcdaoancmpbeaaH.anyIx,hp,k2]
   have:=Option.some.inj h
   rw [← this]
   cases decide (m > 1000000) <;> rfl
set_option maxHeartbeats 2000000 in
set_option maxRecDepth 100000 in
theorem impl_IsPlan.row_calls (k : Nat) (A : Option Addr) (c : Nat) (l : List Int) (m : Int) (w : World) (hr : Kd.C (Kd.int .i64) w A l.length l) (hc : l.length ≤ c) (h : slices_Max_int_int.f k l = some m) :
  Calls Try.prog 88 #[.slice A l.length c] w fun e w'=>e = .returned (.bool (decide (m > 1000000))) ∧ Below w.heap.size w w':=by
 have HX:=Aside0.mk (slices_Max_int_int.calls k A c l m w hr hc h)
 obtain ⟨b,hb⟩ : ∃ b,decide (m > 1000000) = b:=⟨_,rfl⟩
 have hb' : decide (1000000 < m) = b:=hb
 rw [hb]
 clear hr h hb
 go_enter Try.func88,Try.ntmps88
 go_wp2_with (go_at_call 89;refine HX.out.mono ?_;rintro e w1 ⟨rfl,hd1⟩;have HD1:=Aside0.mk hd1;clear hd1)
 go_ret
 exact ⟨rfl,HD1.out⟩
def impl_IsPlan.elOf (w : World) (A : Option Addr) (j : Nat) : Value:=match A with|some ad=>(w.cell? (ad.add j)).getD (.bool false)|none=>.bool false
theorem impl_IsPlan.elOf_some {w : World} {ad : Addr} {j : Nat} {v : Value} (h : w.cell? (ad.add j) = some v) : impl_IsPlan.elOf w (some ad) j = v:=by show (w.cell? (ad.add j)).getD (.bool false) = v;rw [h];rfl
theorem impl_IsPlan.some_calls (k : Nat) (rows : List (List Int)) (b : Bool) (base : Nat) (ok : Nat → Prop) (v : Value) (w : World) (hS : Kd.S (Kd.slice 3 (Kd.int .i64)) 23 w base ok v rows) (h : impl_IsPlan.top k rows = some b) :
  Calls Try.prog 87 #[v,.func (.func 88) #[] #[]] w fun e w'=>e = .returned (.bool b) ∧ Below w.heap.size w w':=by
 obtain ⟨A,c,rfl⟩:=Kd.S_slice hS
 obtain ⟨k1,k2⟩:=impl_IsPlan.top_any k rows rows 0 b (fun j _=>by unfold Go.Proofs.YtdcdaoancmpbeaaH.rdRow;rw [Nat.zero_add,Int.toNat_natCast]) h
 rw [← k2]
 have hR:=(Kd.S_reads' hS).2.2
 refine Go.Proofs.YtdcdaoancmpbeaaH.contains_f107 w A rows.length c (impl_IsPlan.elOf w A) (impl_IsPlan.pv k rows) 88 #[] (enters_of Try.func88 (by kernel_rfl) rfl) (Kd.C_max hR) (fun hp=>?_) (fun j hj W hW=>?_)
 ·obtain ⟨ad,_,_,e,_⟩:=Go.Proofs.YtdcdaoancmpbeaaH.at_row hR 0 (by omega) (by omega)
  subst e
  refine ⟨ad,rfl,fun j hj=>?_⟩
  obtain ⟨ad',A',c',e',h',_⟩:=Go.Proofs.YtdcdaoancmpbeaaH.at_row hR (j : Int) (by omega) (by omega)
  obtain rfl : ad = ad':=by injection e'
  rw [Int.toNat_natCast] at h'
  rw [impl_IsPlan.elOf_some h']
  exact h'
 ·obtain ⟨ad',A',c',e',h',hl',hC⟩:=Go.Proofs.YtdcdaoancmpbeaaH.at_row hR (j : Int) (by omega) (by omega)
  subst e'
  rw [Int.toNat_natCast] at h'
  obtain ⟨m,hm⟩:=k1 j hj
  rw [Nat.zero_add] at hm
  rw [impl_IsPlan.elOf_some h']
  have hp : impl_IsPlan.pv k rows j = decide (m > 1000000):=by unfold impl_IsPlan.pv;rw [hm]
  rw [hp]
  exact impl_IsPlan.row_calls k A' c' (Go.Proofs.YtdcdaoancmpbeaaH.rdRow rows j) m W (Kd.C_below hC hW) hl' hm
def impl_IsPlan.f (k : Nat) (n : Int) (ss : List S73) (os : List Int) : Option Bool:=if impl_IsPlan.formed n ss os = true then ((impl_Plan_exponents.f k n ss os).bind fun t=>(impl_IsPlan.top k t).bind fun b=>some (!b)) else some false
theorem impl_IsPlan.mono : ∀ n ss os k,LeO (impl_IsPlan.f k n ss os) (impl_IsPlan.f (k + 1) n ss os):=by
 intro n ss os k
 unfold impl_IsPlan.f
 exact LeO.ite (LeO.bind (impl_Plan_exponents.mono _ _ _ _) (fun _=>LeO.bind (impl_IsPlan.top_mono _ _) (fun _=>LeO.refl _))) (LeO.refl _)
set_option maxHeartbeats 2000000 in
set_option maxRecDepth 100000 in
theorem impl_IsPlan.calls (k : Nat) (a0_0 : Int) (A0_1 : Option Addr) (c0_1 : Nat) (l0_1 : List S73) (A0_2 : Option Addr) (c0_2 : Nat) (l0_2 : List Int) (r : Bool) (w : World) (hr0_1 : Kd.C k73 w A0_1 l0_1.length l0_1) (hc0_1 : l0_1.length ≤ c0_1) (hr0_2 : Kd.C (Kd.int .i64) w A0_2 l0_2.length l0_2) (hc0_2 : l0_2.length ≤ c0_2) (h : impl_IsPlan.f k a0_0 l0_1 l0_2 = some r) :
  Calls Try.prog 44 #[.agg #[.int .i64 a0_0,.slice A0_1 l0_1.length c0_1,.slice A0_2 l0_2.length c0_2]] w fun e w'=>e = .returned (.bool r) ∧ Below w.heap.size w w':=by
 unfold impl_IsPlan.f at h
 by_cases cf : impl_IsPlan.formed a0_0 l0_1 l0_2 = true
 ·rw [if_pos cf] at h
  obtain ⟨rows,he,h⟩:=Option.bind_eq_some_iff.mp h
  obtain ⟨b,ht,h⟩:=Option.bind_eq_some_iff.mp h
  obtain rfl:=Option.some.inj h
  have HE:=Aside0.mk he
  have HT:=Aside0.mk ht
  have HN:=Aside0.mk (show ∀ W g,impl_IsPlan.IsP w W g a0_0 l0_1 l0_2 → Below w.heap.size w W → Calls Try.prog 86 #[.pointer (some ⟨g,0,none⟩)] W fun e w'=>e = .returned (.bool true) ∧ Below W.heap.size W w' from fun W g h1 h2=>by have:=impl_IsPlan.formed_calls g a0_0 l0_1 l0_2 w W h1 h2;rwa [cf] at this)
  have HR1:=Aside0.mk hr0_1
  have HR2:=Aside0.mk hr0_2
  clear h he ht cf hr0_1 hr0_2
  go_enter Try.func44,Try.ntmps44
  go_wp2_with (first|((with_reducible refine gate_dst (N:=1) rfl ?_);refine box_event ?hg (N:=1) ?hd (cs:=#[.int .i64 a0_0,.slice A0_1 l0_1.length c0_1,.slice A0_2 l0_2.length c0_2]) (t:=29) ?hr ?_;(case hd=>rfl);(case hg=>rfl);(case hr=>first|(go_simp;done)|(go_simp;rfl));intro gb hg w4 hbox hb;have HI:=Aside0.mk (show impl_IsPlan.IsP w w4 gb a0_0 l0_1 l0_2 from ⟨A0_1,c0_1,A0_2,c0_2,hbox,(by rw [hg];exact Nat.le_refl _),HR1.out,HR2.out⟩);have HB:=Aside0.mk hb;have HBX:=Aside0.mk hbox;clear hb hbox hg)|(go_at_call 86;refine (HN.out _ gb HI.out HB.out).mono ?_;rintro e w5 ⟨rfl,hb5⟩;have HBX5:=Aside0.mk ((hb5.block gb (blk_lt HBX.out)).trans HBX.out);have HB5:=Aside0.mk (HB.out.trans (hb5.mono HB.out.size));clear hb5)|(go_at_call 72;refine (impl_Plan_exponents.calls k gb a0_0 A0_1 c0_1 l0_1 A0_2 c0_2 l0_2 rows _ HBX5.out (Kd.C_below HR1.out HB5.out) hc0_1 (Kd.C_below HR2.out HB5.out) hc0_2 HE.out).mono ?_;rintro e w6 ⟨v,rfl,hS,hB6⟩;have HS:=Aside0.mk hS;have HB6:=Aside0.mk (HB5.out.trans (hB6.mono HB5.out.size));clear hS hB6)|(go_at_call 87;refine (impl_IsPlan.some_calls k rows b _ _ _ _ HS.out HT.out).mono ?_;rintro e w7 ⟨rfl,hb7⟩;have HB7:=Aside0.mk (HB6.out.trans (hb7.mono HB6.out.size));clear hb7))
  go_ret
  exact ⟨rfl,HB7.out⟩
 ·rw [if_neg cf] at h
  obtain rfl:=Option.some.inj h
  replace cf:=Bool.eq_false_iff.mpr cf
  have HN:=Aside0.mk (show ∀ W g,impl_IsPlan.IsP w W g a0_0 l0_1 l0_2 → Below w.heap.size w W → Calls Try.prog 86 #[.pointer (some ⟨g,0,none⟩)] W fun e w'=>e = .returned (.bool false) ∧ Below W.heap.size W w' from fun W g h1 h2=>by have:=impl_IsPlan.formed_calls g a0_0 l0_1 l0_2 w W h1 h2;rwa [cf] at this)
  have HR1:=Aside0.mk hr0_1
  have HR2:=Aside0.mk hr0_2
  clear h cf hr0_1 hr0_2
  go_enter Try.func44,Try.ntmps44
  go_wp2_with (first|((with_reducible refine gate_dst (N:=1) rfl ?_);refine box_event ?hg (N:=1) ?hd (cs:=#[.int .i64 a0_0,.slice A0_1 l0_1.length c0_1,.slice A0_2 l0_2.length c0_2]) (t:=29) ?hr ?_;(case hd=>rfl);(case hg=>rfl);(case hr=>first|(go_simp;done)|(go_simp;rfl));intro gb hg w4 hbox hb;have HI:=Aside0.mk (show impl_IsPlan.IsP w w4 gb a0_0 l0_1 l0_2 from ⟨A0_1,c0_1,A0_2,c0_2,hbox,(by rw [hg];exact Nat.le_refl _),HR1.out,HR2.out⟩);have HB:=Aside0.mk hb;have HBX:=Aside0.mk hbox;clear hb hbox hg)|(go_at_call 86;refine (HN.out _ gb HI.out HB.out).mono ?_;rintro e w5 ⟨rfl,hb5⟩;have HBX5:=Aside0.mk ((hb5.block gb (blk_lt HBX.out)).trans HBX.out);have HB5:=Aside0.mk (HB.out.trans (hb5.mono HB.out.size));clear hb5))
  go_ret
  exact ⟨rfl,HB5.out⟩
/-! ### impl_renamed: function 46 -/
def impl_renamed.l0 : Nat → List Int → List Int → List Int → Int → Int → Option (List Int)
 | 0,_,_,_,_,_=>none
 | k + 1,x1,x5,x9,x10,x11=>if x11 < x10 then (if 0 ≤ x11 then (if x11 < (x9.length : Int) then (if 0 ≤ (rd x9 x11) then (if (rd x9 x11) < (x1.length : Int) then (if x5.length < 17592186044416 then (impl_renamed.l0 k x1 (x5 ++ [rd x1 (rd x9 x11)]) x9 x10 (wrap64 (x11 + 1))) else (none)) else (none)) else (none)) else (none)) else (none)) else (some x5)
def impl_renamed.f (k : Nat) (l0 : List Int) (l1 : List Int) : Option (List Int):=impl_renamed.l0 k l1 (([] : List Int)) l0 (l0.length : Int) 0
theorem impl_renamed.mono_l : ∀ k,(∀ y0 y1 y2 y3 y4,LeO (impl_renamed.l0 k y0 y1 y2 y3 y4) (impl_renamed.l0 (k + 1) y0 y1 y2 y3 y4))
 | 0=>fun _ _ _ _ _ r h=>by simp [impl_renamed.l0] at h
 | k + 1=>by
  have ih0:=impl_renamed.mono_l k
  ·intro y0 y1 y2 y3 y4
   unfold impl_renamed.l0
   repeat' first
   | (with_reducible exact ih0 _ _ _ _ _)
   | (with_reducible exact LeO.refl _)
   | (with_reducible exact LeO.none _)
   | (with_reducible refine LeO.ite ?_ ?_)
   | (with_reducible refine LeO.bind ?_ (fun _=>?_))
   | exact ih0 _ _ _ _ _
   | exact LeO.none _
   | refine LeO.ite ?_ ?_
   | refine LeO.bind ?_ (fun _=>?_)
theorem impl_renamed.mono : ∀ a0 a1 k,LeO (impl_renamed.f k a0 a1) (impl_renamed.f (k + 1) a0 a1):=by
 intro a0 a1 k
 have ih0:=impl_renamed.mono_l k
 unfold impl_renamed.f
 repeat' first
   | (with_reducible exact ih0 _ _ _ _ _)
   | (with_reducible exact LeO.refl _)
   | (with_reducible exact LeO.none _)
   | (with_reducible refine LeO.ite ?_ ?_)
   | (with_reducible refine LeO.bind ?_ (fun _=>?_))
   | exact ih0 _ _ _ _ _
   | exact LeO.none _
   | refine LeO.ite ?_ ?_
   | refine LeO.bind ?_ (fun _=>?_)
set_option maxHeartbeats 8000000 in
set_option maxRecDepth 100000 in
theorem impl_renamed.calls (k : Nat) (A0 : Option Addr) (c0 : Nat) (l0 : List Int) (A1 : Option Addr) (c1 : Nat) (l1 : List Int) (r : List Int) (w : World) (hr0 : Kd.C (Kd.int .i64) w A0 l0.length l0) (hc0 : l0.length ≤ c0) (hr1 : Kd.C (Kd.int .i64) w A1 l1.length l1) (hc1 : l1.length ≤ c1) (h : impl_renamed.f k l0 l1 = some r) :
  Calls Try.prog 46 #[.slice A0 l0.length c0,.slice A1 l1.length c1] w fun e w'=>∃ v0_ : Value,e = .returned (v0_) ∧ Kd.R (Kd.int .i64) 3 w' w.heap.size (fun _=>True) v0_ r ∧ Below w.heap.size w w':=by
 have HR0:=Aside0.mk hr0
 have HC0:=Aside0.mk hc0
 clear hr0 hc0
 have HR1:=Aside0.mk hr1
 have HC1:=Aside0.mk hc1
 clear hr1 hc1
 have HB:=Aside0.mk (Below.refl w.heap.size w)
 have H : (impl_renamed.l0 k l1 (([] : List Int)) l0 (l0.length : Int) 0) = some r:=h
 clear h
 obtain ⟨y266,hy266⟩ : ∃ y_ : List Int,y_ = (([] : List Int)):=⟨_,rfl⟩
 replace H : (impl_renamed.l0 k l1 y266 l0 (l0.length : Int) 0) = some r:=by first|(rw [hy266];with_reducible exact H)|(have H2_:=(Option.bind_some _ _).symm.trans H;rw [hy266];with_reducible exact H2_)|(have H2_:=(Option.bind_some _ _).symm.trans H;with_reducible exact H2_)|with_reducible exact H|(rw [hy266];exact H)|exact H
 have Ny266:=Aside0.mk hy266
 clear hy266
 have H':=Aside0.mk H
 clear H
 go_enter Try.func46,Try.ntmps46
 go_wp2_with (first|((with_reducible refine gate_dst (N:=8) rfl ?_);refine Kd.R_lit (Kd.int .i64) _ 3 ?hg (N:=8) ?hd (xs:=([] : List Int)) (inner:=[]) (ok:=fun _=>True) (okp:=fun _=>True) ?hr ?hp (fun _ hk=>hk) trivial (Below.refl _ _) (Nat.le_refl _) (by simp) ?_;(case hd=>rfl);(case hg=>rfl);(case hr=>first|(go_simp;done)|(go_simp;rfl));(case hp=>exact (Reps.none _ _));intro v267 w3 ho4 hb hg_ hnew_;clear hg_ hnew_;(first|rw [← Ny266.out] at ho4|(simp only [Int.reduceToNat] at ho4;rw [← Ny266.out] at ho4));have n0_:=Aside0.mk (Kd.R_lower ho4 (below_size bz));have n1_:=Aside0.mk (below_step bz hb);clear HB;have HO268:=n0_;have HB:=n1_;clear n0_ n1_;clear hb ho4))
 go_loopg [5,11] k (fun kq v5 v11 w'=>∃ (x5_1 : List Int) (x11_1 : Int),v11 = .int .i64 x11_1 ∧ Aside0 (impl_renamed.l0 kq l1 x5_1 l0 (l0.length : Int) x11_1 = some r) ∧ Aside0 (kq ≤ k) ∧ Aside0 (Kd.R (Kd.int .i64) 3 w' w.heap.size (fun _=>True) v5 x5_1) ∧ Aside0 (Below w.heap.size w w'))
 case atStart=>exact ⟨(y266),(0),fz,H',⟨Nat.le_refl _⟩,⟨by (with_reducible repeat (first|apply Kd.R_alloc|apply Kd.R_drewN|apply Kd.R_drew));exact HO268.out⟩,⟨by repeat (first|(with_reducible first|exact HB.out|apply below_alloc|apply pw_below_drewN|apply below_drew1)|exact HB.out)⟩⟩
 case round=>
  clear H'
  try clear c1
  try clear p2
  try clear c4
  obtain ⟨x5_1,x11_1,rfl,HA,HK1,HO_5,HB⟩:=hrel
  cases gk with
  | zero=>exact absurd HA.out (by simp [impl_renamed.l0])
  | succ k1=>
   have H:=HA.out
   clear HA
   simp only [impl_renamed.l0] at H
   by_cases c5 : x11_1 < (l0.length : Int)
   ·rw [if_pos c5] at H
    have c5b0 : decide (x11_1 < (l0.length : Int)) = true:=decide_eq_true c5
    clear c5
    by_cases c6 : 0 ≤ x11_1
    ·rw [if_pos c6] at H
     have c6b0 : decide (0 ≤ x11_1) = true:=decide_eq_true c6
     clear c6
     by_cases c7 : x11_1 < (l0.length : Int)
     ·rw [if_pos c7] at H
      have c7b0 : decide (x11_1 < (l0.length : Int)) = true:=decide_eq_true c7
      clear c7
      by_cases c8 : 0 ≤ (rd l0 x11_1)
      ·rw [if_pos c8] at H
       have c8b0 : decide (0 ≤ (rd l0 x11_1)) = true:=decide_eq_true c8
       clear c8
       by_cases c9 : (rd l0 x11_1) < (l1.length : Int)
       ·rw [if_pos c9] at H
        have c9b0 : decide ((rd l0 x11_1) < (l1.length : Int)) = true:=decide_eq_true c9
        clear c9
        by_cases c10 : x5_1.length < 17592186044416
        ·rw [if_pos c10] at H
         have LMc10:=Aside0.mk c10
         clear c10
         obtain ⟨y271,hy271⟩ : ∃ y_ : List Int,y_ = (x5_1 ++ [rd l1 (rd l0 x11_1)]):=⟨_,rfl⟩
         replace H : (impl_renamed.l0 k1 l1 y271 l0 (l0.length : Int) (wrap64 (x11_1 + 1))) = some r:=by first|(rw [hy271];with_reducible exact H)|(have H2_:=(Option.bind_some _ _).symm.trans H;rw [hy271];with_reducible exact H2_)|(have H2_:=(Option.bind_some _ _).symm.trans H;with_reducible exact H2_)|with_reducible exact H|(rw [hy271];exact H)|exact H
         have Ny271:=Aside0.mk hy271
         clear hy271
         have H':=Aside0.mk H
         clear H
         have p269 : 0 ≤ (x11_1 : Int):=of_decide_eq_true az
         have q269 : x11_1 < (l0.length : Int):=of_decide_eq_true az
         obtain ⟨ad269,e269,hx269_0⟩:=Kd.at_int HR0.out x11_1 p269 q269
         cases e269
         replace hx269_0:=(HB.out.cell (World.block_lt_of_cell? w _ hx269_0)).trans hx269_0
         replace p269:=eq_true p269
         replace q269:=eq_true q269
         have p270 : 0 ≤ ((rd l0 x11_1) : Int):=of_decide_eq_true az
         have q270 : (rd l0 x11_1) < (l1.length : Int):=of_decide_eq_true az
         obtain ⟨ad270,e270,hx270_0⟩:=Kd.at_int HR1.out (rd l0 x11_1) p270 q270
         cases e270
         replace hx270_0:=(HB.out.cell (World.block_lt_of_cell? w _ hx270_0)).trans hx270_0
         replace p270:=eq_true p270
         replace q270:=eq_true q270
         go_wp2_with (first|((with_reducible refine gate_builtin (b:=.append) (xs:=#[.tmp 15,.tmp 20]) rfl ?_);at_builtin;refine Kd.R_append (Kd.int .i64) (w0:=w) w.heap.size rfl (.tmp 15) (.tmp 20) 23 3 (.int .i64 0) 8 rfl Try.underlying23 info3 rfl (by decide) (by omega) u5 x5_1 (rd l1 (rd l0 x11_1)) [.int .i64 (rd l1 (rd l0 x11_1))] (fun _=>True) (fun _=>False) rfl rfl ?aP (fun _ hk=>hk.elim) ?aF ?aO ?aB ?aS ?aL ?_;(case aP=>exact rfl);(case aB=>exact bz);(case aF=>exact (fun _ _=>trivial));(case aO=>exact (rz HO_5.out));(case aS=>exact (below_size bz));(case aL=>have:=LMc10.out;omega);intro v272 w11 ho hb hg hat;rw [← Ny271.out] at ho;have n0_:=Aside0.mk (hb);have n1_:=Aside0.mk (ho);clear HB HO_5;have HB:=n0_;have HO273:=n1_;clear n0_ n1_;clear ho hb hg hat))
         go_roundg k1
         case measure=>have:=HK1.out;omega
         case rel=>exact ⟨(y271),(wrap64 (x11_1 + 1)),fz,H',⟨by have:=HK1.out;omega⟩,⟨by (with_reducible repeat (first|apply Kd.R_alloc|apply Kd.R_drewN|apply Kd.R_drew));exact HO273.out⟩,⟨by repeat (first|(with_reducible first|exact HB.out|apply below_alloc|apply pw_below_drewN|apply below_drew1)|exact HB.out)⟩⟩
        ·rw [if_neg c10] at H
         exact absurd H (by simp)
       ·rw [if_neg c9] at H
        exact absurd H (by simp)
      ·rw [if_neg c8] at H
       exact absurd H (by simp)
     ·rw [if_neg c7] at H
      exact absurd H (by simp)
    ·rw [if_neg c6] at H
     exact absurd H (by simp)
   ·rw [if_neg c5] at H
    have c5b0 : decide (x11_1 < (l0.length : Int)) = false:=decide_eq_false c5
    clear c5
    obtain rfl:=Option.some.inj H
    go_wp2
    go_ret
    exact ⟨_,by first|rfl|(simp [errW_none,errW_some] <;> rfl)|(simp [*,errW_none,errW_some] <;> rfl),by (with_reducible repeat (first|apply Kd.R_alloc|apply Kd.R_drewN|apply Kd.R_drew));exact HO_5.out,by repeat (first|(with_reducible first|exact HB.out|apply below_alloc|apply pw_below_drewN|apply below_drew1)|exact HB.out)⟩
/-! ### impl_firsts: function 48 -/
def impl_firsts.l0 : Nat → List Int → Int → Int → Option (List Int)
 | 0,_,_,_=>none
 | k + 1,x3,x6,x7=>if x7 < x6 then (if x3.length < 17592186044416 then (impl_firsts.l0 k (x3 ++ [x7]) x6 (wrap64 (x7 + 1))) else (none)) else (some x3)
def impl_firsts.f (k : Nat) (a0 : Int) : Option (List Int):=impl_firsts.l0 k (([] : List Int)) a0 0
theorem impl_firsts.mono_l : ∀ k,(∀ y0 y1 y2,LeO (impl_firsts.l0 k y0 y1 y2) (impl_firsts.l0 (k + 1) y0 y1 y2))
 | 0=>fun _ _ _ r h=>by simp [impl_firsts.l0] at h
 | k + 1=>by
  have ih0:=impl_firsts.mono_l k
  ·intro y0 y1 y2
   unfold impl_firsts.l0
   repeat' first
   | (with_reducible exact ih0 _ _ _)
   | (with_reducible exact LeO.refl _)
   | (with_reducible exact LeO.none _)
   | (with_reducible refine LeO.ite ?_ ?_)
   | (with_reducible refine LeO.bind ?_ (fun _=>?_))
   | exact ih0 _ _ _
   | exact LeO.none _
   | refine LeO.ite ?_ ?_
   | refine LeO.bind ?_ (fun _=>?_)
theorem impl_firsts.mono : ∀ a0 k,LeO (impl_firsts.f k a0) (impl_firsts.f (k + 1) a0):=by
 intro a0 k
 have ih0:=impl_firsts.mono_l k
 unfold impl_firsts.f
 repeat' first
   | (with_reducible exact ih0 _ _ _)
   | (with_reducible exact LeO.refl _)
   | (with_reducible exact LeO.none _)
   | (with_reducible refine LeO.ite ?_ ?_)
   | (with_reducible refine LeO.bind ?_ (fun _=>?_))
   | exact ih0 _ _ _
   | exact LeO.none _
   | refine LeO.ite ?_ ?_
   | refine LeO.bind ?_ (fun _=>?_)
set_option maxHeartbeats 8000000 in
set_option maxRecDepth 100000 in
theorem impl_firsts.calls (k : Nat) (a0 : Int) (r : List Int) (w : World) (h : impl_firsts.f k a0 = some r) :
  Calls Try.prog 48 #[.int .i64 a0] w fun e w'=>∃ v0_ : Value,e = .returned (v0_) ∧ Kd.R (Kd.int .i64) 3 w' w.heap.size (fun _=>True) v0_ r ∧ Below w.heap.size w w':=by
 have HB:=Aside0.mk (Below.refl w.heap.size w)
 have H : (impl_firsts.l0 k (([] : List Int)) a0 0) = some r:=h
 clear h
 obtain ⟨y274,hy274⟩ : ∃ y_ : List Int,y_ = (([] : List Int)):=⟨_,rfl⟩
 replace H : (impl_firsts.l0 k y274 a0 0) = some r:=by first|(rw [hy274];with_reducible exact H)|(have H2_:=(Option.bind_some _ _).symm.trans H;rw [hy274];with_reducible exact H2_)|(have H2_:=(Option.bind_some _ _).symm.trans H;with_reducible exact H2_)|with_reducible exact H|(rw [hy274];exact H)|exact H
 have Ny274:=Aside0.mk hy274
 clear hy274
 have H':=Aside0.mk H
 clear H
 go_enter Try.func48,Try.ntmps48
 go_wp2_with (first|((with_reducible refine gate_dst (N:=5) rfl ?_);refine Kd.R_lit (Kd.int .i64) _ 3 ?hg (N:=5) ?hd (xs:=([] : List Int)) (inner:=[]) (ok:=fun _=>True) (okp:=fun _=>True) ?hr ?hp (fun _ hk=>hk) trivial (Below.refl _ _) (Nat.le_refl _) (by simp) ?_;(case hd=>rfl);(case hg=>rfl);(case hr=>first|(go_simp;done)|(go_simp;rfl));(case hp=>exact (Reps.none _ _));intro v275 w2 ho3 hb hg_ hnew_;clear hg_ hnew_;(first|rw [← Ny274.out] at ho3|(simp only [Int.reduceToNat] at ho3;rw [← Ny274.out] at ho3));have n0_:=Aside0.mk (Kd.R_lower ho3 (below_size bz));have n1_:=Aside0.mk (below_step bz hb);clear HB;have HO276:=n0_;have HB:=n1_;clear n0_ n1_;clear hb ho3))
 go_loopg [3,7] k (fun kq v3 v7 w'=>∃ (x3_1 : List Int) (x7_1 : Int),v7 = .int .i64 x7_1 ∧ Aside0 (impl_firsts.l0 kq x3_1 a0 x7_1 = some r) ∧ Aside0 (kq ≤ k) ∧ Aside0 (Kd.R (Kd.int .i64) 3 w' w.heap.size (fun _=>True) v3 x3_1) ∧ Aside0 (Below w.heap.size w w'))
 case atStart=>exact ⟨(y274),(0),fz,H',⟨Nat.le_refl _⟩,⟨by (with_reducible repeat (first|apply Kd.R_alloc|apply Kd.R_drewN|apply Kd.R_drew));exact HO276.out⟩,⟨by repeat (first|(with_reducible first|exact HB.out|apply below_alloc|apply pw_below_drewN|apply below_drew1)|exact HB.out)⟩⟩
 case round=>
  clear H'
  try clear p2
  obtain ⟨x3_1,x7_1,rfl,HA,HK1,HO_3,HB⟩:=hrel
  cases gk with
  | zero=>exact absurd HA.out (by simp [impl_firsts.l0])
  | succ k1=>
   have H:=HA.out
   clear HA
   simp only [impl_firsts.l0] at H
   by_cases c4 : x7_1 < a0
   ·rw [if_pos c4] at H
    have c4b0 : decide (x7_1 < a0) = true:=decide_eq_true c4
    clear c4
    by_cases c5 : x3_1.length < 17592186044416
    ·rw [if_pos c5] at H
     have LMc5:=Aside0.mk c5
     clear c5
     obtain ⟨y277,hy277⟩ : ∃ y_ : List Int,y_ = (x3_1 ++ [x7_1]):=⟨_,rfl⟩
     replace H : (impl_firsts.l0 k1 y277 a0 (wrap64 (x7_1 + 1))) = some r:=by first|(rw [hy277];with_reducible exact H)|(have H2_:=(Option.bind_some _ _).symm.trans H;rw [hy277];with_reducible exact H2_)|(have H2_:=(Option.bind_some _ _).symm.trans H;with_reducible exact H2_)|with_reducible exact H|(rw [hy277];exact H)|exact H
     have Ny277:=Aside0.mk hy277
     clear hy277
     have H':=Aside0.mk H
     clear H
     go_wp2_with (first|((with_reducible refine gate_builtin (b:=.append) (xs:=#[.tmp 10,.tmp 12]) rfl ?_);at_builtin;refine Kd.R_append (Kd.int .i64) (w0:=w) w.heap.size rfl (.tmp 10) (.tmp 12) 23 3 (.int .i64 0) 8 rfl Try.underlying23 info3 rfl (by decide) (by omega) u3 x3_1 x7_1 [.int .i64 x7_1] (fun _=>True) (fun _=>False) rfl rfl ?aP (fun _ hk=>hk.elim) ?aF ?aO ?aB ?aS ?aL ?_;(case aP=>exact rfl);(case aB=>exact bz);(case aF=>exact (fun _ _=>trivial));(case aO=>exact (rz HO_3.out));(case aS=>exact (below_size bz));(case aL=>have:=LMc5.out;omega);intro v278 w6 ho hb hg hat;rw [← Ny277.out] at ho;have n0_:=Aside0.mk (hb);have n1_:=Aside0.mk (ho);clear HB HO_3;have HB:=n0_;have HO279:=n1_;clear n0_ n1_;clear ho hb hg hat))
     go_roundg k1
     case measure=>have:=HK1.out;omega
     case rel=>exact ⟨(y277),(wrap64 (x7_1 + 1)),fz,H',⟨by have:=HK1.out;omega⟩,⟨by (with_reducible repeat (first|apply Kd.R_alloc|apply Kd.R_drewN|apply Kd.R_drew));exact HO279.out⟩,⟨by repeat (first|(with_reducible first|exact HB.out|apply below_alloc|apply pw_below_drewN|apply below_drew1)|exact HB.out)⟩⟩
    ·rw [if_neg c5] at H
     exact absurd H (by simp)
   ·rw [if_neg c4] at H
    have c4b0 : decide (x7_1 < a0) = false:=decide_eq_false c4
    clear c4
    obtain rfl:=Option.some.inj H
    go_wp2
    go_ret
    exact ⟨_,by first|rfl|(simp [errW_none,errW_some] <;> rfl)|(simp [*,errW_none,errW_some] <;> rfl),by (with_reducible repeat (first|apply Kd.R_alloc|apply Kd.R_drewN|apply Kd.R_drew));exact HO_3.out,by repeat (first|(with_reducible first|exact HB.out|apply below_alloc|apply pw_below_drewN|apply below_drew1)|exact HB.out)⟩
/-! ### impl_told: function 49 -/
def impl_told.f (k : Nat) (a0_0 : Int) (l0_1 : List (S73)) (l0_2 : List Int) : Option (Int × (List (S73)) × List Int × Bool):=(impl_IsPlan.f k a0_0 l0_1 l0_2).bind fun t282=>(if t282 = true then (some (a0_0,l0_1,l0_2,true)) else (some (0,([] : List (S73)),([] : List Int),false)))
theorem impl_told.mono : ∀ a0 a1 a2 k,LeO (impl_told.f k a0 a1 a2) (impl_told.f (k + 1) a0 a1 a2):=by
 intro a0 a1 a2 k
 unfold impl_told.f
 repeat' first
   | (with_reducible exact impl_IsPlan.mono _ _ _ _)
   | (with_reducible exact LeO.refl _)
   | (with_reducible exact LeO.none _)
   | (with_reducible refine LeO.ite ?_ ?_)
   | (with_reducible refine LeO.bind ?_ (fun _=>?_))
   | exact impl_IsPlan.mono _ _ _ _
   | exact LeO.none _
   | refine LeO.ite ?_ ?_
   | refine LeO.bind ?_ (fun _=>?_)
set_option maxHeartbeats 8000000 in
set_option maxRecDepth 100000 in
theorem impl_told.calls (k : Nat) (a0_0 : Int) (P0_1_ : Nat → Prop) (u9000_ : Value) (l0_1 : List (S73)) (P0_2_ : Nat → Prop) (u9001_ : Value) (l0_2 : List Int) (r1 : Int) (r2 : List (S73)) (r3 : List Int) (r4 : Bool) (w0 w : World) (hB : Below w0.heap.size w0 w) (ho0_1 : Kd.R k73 73 w w0.heap.size P0_1_ u9000_ l0_1) (ho0_2 : Kd.R (Kd.int .i64) 3 w w0.heap.size P0_2_ u9001_ l0_2) (h : impl_told.f k a0_0 l0_1 l0_2 = some (r1,r2,r3,r4)) :
  Calls Try.prog 49 #[.agg #[.int .i64 a0_0,u9000_,u9001_]] w fun e w'=>∃ v1_ v2_ : Value,e = .returned (.tuple #[.agg #[.int .i64 r1,v1_,v2_],.bool r4]) ∧ Kd.R k73 73 w' w0.heap.size (fun k_=>((P0_1_ k_ ∨ P0_2_ k_) ∨ w.heap.size ≤ k_)) v1_ r2 ∧ Kd.R (Kd.int .i64) 3 w' w0.heap.size (fun k_=>((P0_1_ k_ ∨ P0_2_ k_) ∨ w.heap.size ≤ k_)) v2_ r3 ∧ Below w0.heap.size w0 w' ∧ Kept w w' (fun k_=>P0_1_ k_ ∨ P0_2_ k_):=by
 have hu29:=Try.underlying29
 have HO0_1:=Aside0.mk (show Kd.R k73 73 w w0.heap.size (fun k_=>((P0_1_ k_ ∨ P0_2_ k_) ∨ w.heap.size ≤ k_)) u9000_ l0_1 from Kd.R_mono ho0_1 (fun k_ hk=>(.inl (.inl hk))))
 have HO0_2:=Aside0.mk (show Kd.R (Kd.int .i64) 3 w w0.heap.size (fun k_=>((P0_1_ k_ ∨ P0_2_ k_) ∨ w.heap.size ≤ k_)) u9001_ l0_2 from Kd.R_mono ho0_2 (fun k_ hk=>(.inl (.inr hk))))
 have HK:=Aside0.mk (Kept.refl w (fun k_=>P0_1_ k_ ∨ P0_2_ k_))
 have HW0:=Aside0.mk hB.size
 have HB:=Aside0.mk hB
 clear hB
 have H : ((impl_IsPlan.f k a0_0 l0_1 l0_2).bind fun t282=>(if t282 = true then (some (a0_0,l0_1,l0_2,true)) else (some (0,([] : List (S73)),([] : List Int),false)))) = some (r1,r2,r3,r4):=h
 clear h
 obtain ⟨t282,A2,H⟩:=bd H
 by_cases c3 : t282 = true
 ·subst c3
  rw [if_pos rfl] at H
  simp only [Option.some.injEq,Prod.mk.injEq] at H
  obtain ⟨rfl,rfl,rfl,rfl⟩:=H
  obtain ⟨Ao4,co4,eo4⟩:=Kd.R_slice HO0_1.out
  subst eo4
  obtain ⟨Ao5,co5,eo5⟩:=Kd.R_slice HO0_2.out
  subst eo5
  go_enter Try.func49,Try.ntmps49
  go_wp2_with (first|((with_reducible refine gate_dst (N:=1) rfl ?_);refine box_event ?hg (N:=1) ?hd (cs:=#[.int .i64 a0_0,.slice Ao4 l0_1.length co4,.slice Ao5 l0_2.length co5]) (t:=29) ?hr ?_;(case hd=>rfl);(case hg=>rfl);(case hr=>first|(go_simp;done)|(go_simp;rfl));intro gb280 hg w6 hbox hb;have n0_:=Aside0.mk (Kd.R_below (rz HO0_1.out) hb);have n1_:=Aside0.mk (Kd.R_below (rz HO0_2.out) hb);have n2_:=Aside0.mk (Kept.below (S:=(fun k_=>P0_1_ k_ ∨ P0_2_ k_)) (by repeat (first|(with_reducible first|exact HK.out|apply Kept.alloc|apply Kept.drewN|apply Kept.drew)|exact HK.out)) hb);have n3_:=Aside0.mk (below_step bz hb);have n4_:=Aside0.mk (hbox);have n5_:=Aside0.mk ((by rw [hg];exact (by first|exact HK.out.1|exact (show Kept w _ (fun k_=>P0_1_ k_ ∨ P0_2_ k_) from by repeat (first|(with_reducible first|exact HK.out|apply Kept.alloc|apply Kept.drewN|apply Kept.drew)|exact HK.out)).1) : w.heap.size ≤ gb280));have n6_:=Aside0.mk ((by rw [hg];exact (below_size bz) : w0.heap.size ≤ gb280));clear HO0_1 HO0_2 HK HB;have HO0_1:=n0_;have HO0_2:=n1_;have HK:=n2_;have HB:=n3_;have BK280:=n4_;have GW280:=n5_;have GE280:=n6_;clear n0_ n1_ n2_ n3_ n4_ n5_ n6_;clear hb hbox hg)|((with_reducible refine gate_dst (N:=2) rfl ?_);refine box_event ?hg (N:=2) ?hd (cs:=#[.int .i64 0,.slice none 0 0,.slice none 0 0]) (t:=29) ?hr ?_;(case hd=>rfl);(case hg=>rfl);(case hr=>first|(go_simp;done)|(go_simp;rfl));intro gb281 hg w7 hbox hb;have n0_:=Aside0.mk (Kd.R_below (rz HO0_1.out) hb);have n1_:=Aside0.mk (Kd.R_below (rz HO0_2.out) hb);have n2_:=Aside0.mk (kb BK280.out hb);have n3_:=Aside0.mk (Kept.below (S:=(fun k_=>P0_1_ k_ ∨ P0_2_ k_)) (by repeat (first|(with_reducible first|exact HK.out|apply Kept.alloc|apply Kept.drewN|apply Kept.drew|refine Kept.setCell ?_ (.inr GW280.out) _)|exact HK.out)) hb);have n4_:=Aside0.mk (below_step bs hb);have n5_:=Aside0.mk (hbox);have n6_:=Aside0.mk ((by rw [hg];exact (by first|exact HK.out.1|exact (show Kept w _ (fun k_=>P0_1_ k_ ∨ P0_2_ k_) from by repeat (first|(with_reducible first|exact HK.out|apply Kept.alloc|apply Kept.drewN|apply Kept.drew|refine Kept.setCell ?_ (.inr GW280.out) _)|exact HK.out)).1) : w.heap.size ≤ gb281));have n7_:=Aside0.mk ((by rw [hg];exact (below_size bs) : w0.heap.size ≤ gb281));have n8_:=Aside0.mk (kn hg BK280.out);have n9_:=Aside0.mk (km hg BK280.out);clear HO0_1 HO0_2 BK280 HK HB;have HO0_1:=n0_;have HO0_2:=n1_;have BK280:=n2_;have HK:=n3_;have HB:=n4_;have BK281:=n5_;have GW281:=n6_;have GE281:=n7_;have NB280_281:=n8_;have NB281_280:=n9_;clear n0_ n1_ n2_ n3_ n4_ n5_ n6_ n7_ n8_ n9_;clear hb hbox hg;have hnb8:=NB280_281.out;have hnc8:=NB281_280.out;have hcz9_0 : w7.cell? ⟨gb280,0,none⟩ = some (.int .i64 a0_0):=(blk_cell BK280.out 0).trans rfl;have hcz9_1 : w7.cell? ⟨gb280,1,none⟩ = some (.slice Ao4 l0_1.length co4):=(blk_cell BK280.out 1).trans rfl;have hcz9_2 : w7.cell? ⟨gb280,2,none⟩ = some (.slice Ao5 l0_2.length co5):=(blk_cell BK280.out 2).trans rfl;have hfz9_0:=blk_frozen BK280.out 0;have hfz9_1:=blk_frozen BK280.out 1;have hfz9_2:=blk_frozen BK280.out 2)|((with_reducible refine gate_callee (f:=44) rfl ?_);refine goesL_ (some 5) rfl rfl Try.func44 (by kernel_rfl) rfl #[.agg #[.int .i64 a0_0,.slice Ao4 l0_1.length co4,.slice Ao5 l0_2.length co5]] rfl mz ?_;(with_reducible refine (impl_IsPlan.calls k a0_0 _ _ l0_1 _ _ l0_2 true _ ?side1 ?side2 ?side3 ?side4 A2.out).mono ?_);(case side1=>exact cz (Kd.R_reads' HO0_1.out).2.2);(case side2=>exact (Kd.R_reads' HO0_1.out).2.1);(case side3=>exact cz (Kd.R_reads' HO0_2.out).2.2);(case side4=>exact (Kd.R_reads' HO0_2.out).2.1);rintro e w10 ⟨rfl,hb⟩;refine ⟨_,rfl,?_⟩;have n0_:=Aside0.mk (Kd.R_below (rz HO0_1.out) hb);have n1_:=Aside0.mk (Kd.R_below (rz HO0_2.out) hb);have n2_:=Aside0.mk (kb BK280.out hb);have n3_:=Aside0.mk (kb BK281.out hb);have n4_:=Aside0.mk (Kept.below (S:=(fun k_=>P0_1_ k_ ∨ P0_2_ k_)) (by repeat (first|(with_reducible first|exact HK.out|apply Kept.alloc|apply Kept.drewN|apply Kept.drew|refine Kept.setCell ?_ (.inr GW280.out) _|refine Kept.setCell ?_ (.inr GW281.out) _)|exact HK.out)) hb);have n5_:=Aside0.mk (below_step bs hb);clear HO0_1 HO0_2 BK280 BK281 HK HB;have HO0_1:=n0_;have HO0_2:=n1_;have BK280:=n2_;have BK281:=n3_;have HK:=n4_;have HB:=n5_;clear n0_ n1_ n2_ n3_ n4_ n5_;(try clear hb);have hcz11_0 : w10.cell? ⟨gb280,0,none⟩ = some (.int .i64 a0_0):=(blk_cell BK280.out 0).trans rfl;have hcz11_1 : w10.cell? ⟨gb280,1,none⟩ = some (.slice Ao4 l0_1.length co4):=(blk_cell BK280.out 1).trans rfl;have hcz11_2 : w10.cell? ⟨gb280,2,none⟩ = some (.slice Ao5 l0_2.length co5):=(blk_cell BK280.out 2).trans rfl;have hfz11_0:=blk_frozen BK280.out 0;have hfz11_1:=blk_frozen BK280.out 1;have hfz11_2:=blk_frozen BK280.out 2;have hcz12_0 : w10.cell? ⟨gb281,0,none⟩ = some (.int .i64 0):=(blk_cell BK281.out 0).trans rfl;have hcz12_1 : w10.cell? ⟨gb281,1,none⟩ = some (.slice none 0 0):=(blk_cell BK281.out 1).trans rfl;have hcz12_2 : w10.cell? ⟨gb281,2,none⟩ = some (.slice none 0 0):=(blk_cell BK281.out 2).trans rfl;have hfz12_0:=blk_frozen BK281.out 0;have hfz12_1:=blk_frozen BK281.out 1;have hfz12_2:=blk_frozen BK281.out 2))
  refine bodyPost_ret (results_ct rfl _ _ gb281 29 #[.int .i64 a0_0,.slice Ao4 l0_1.length co4,.slice Ao5 l0_2.length co5] (0,0) _ rfl (by (with_reducible repeat (first|refine blk_drewN ?_ _|refine blk_drew ?_|refine blk_alloc ?_ _));refine blk_put (cs:=#[.int .i64 a0_0,.slice Ao4 l0_1.length co4,.slice none 0 0]) ?_ 2 _ rfl;(with_reducible repeat (first|refine blk_drewN ?_ _|refine blk_drew ?_|refine blk_alloc ?_ _));refine blk_put (cs:=#[.int .i64 a0_0,.slice none 0 0,.slice none 0 0]) ?_ 1 _ rfl;(with_reducible repeat (first|refine blk_drewN ?_ _|refine blk_drew ?_|refine blk_alloc ?_ _));refine blk_put (cs:=#[.int .i64 0,.slice none 0 0,.slice none 0 0]) ?_ 0 _ rfl;(with_reducible repeat (first|refine blk_drewN ?_ _|refine blk_drew ?_|refine blk_alloc ?_ _));exact BK281.out) Try.underlying29 rfl (by kernel_rfl)) rfl ?_
  exact ⟨_,_,by first|rfl|(simp [errW_none,errW_some] <;> rfl)|(simp [*,errW_none,errW_some] <;> rfl),by (with_reducible repeat (first|apply Kd.R_alloc|apply Kd.R_drewN|apply Kd.R_drew));exact Kd.R_mono (Kd.R_far (p:=⟨gb281,2,none⟩) (Kd.R_far (p:=⟨gb281,1,none⟩) (Kd.R_far (p:=⟨gb281,0,none⟩) (Kd.R_types HO0_1.out BK281.out (by decide)) (fun _ hk=>hk.2) (.int .i64 a0_0)) (fun _ hk=>hk.2) (.slice Ao4 l0_1.length co4)) (fun _ hk=>hk.2) (.slice Ao5 l0_2.length co5)) (fun _ hk=>hk.1),by (with_reducible repeat (first|apply Kd.R_alloc|apply Kd.R_drewN|apply Kd.R_drew));exact Kd.R_mono (Kd.R_far (p:=⟨gb281,2,none⟩) (Kd.R_far (p:=⟨gb281,1,none⟩) (Kd.R_far (p:=⟨gb281,0,none⟩) (Kd.R_types HO0_2.out BK281.out (by decide)) (fun _ hk=>hk.2) (.int .i64 a0_0)) (fun _ hk=>hk.2) (.slice Ao4 l0_1.length co4)) (fun _ hk=>hk.2) (.slice Ao5 l0_2.length co5)) (fun _ hk=>hk.1),by repeat (first|(with_reducible first|exact HB.out|apply below_alloc|apply pw_below_drewN|apply below_drew1|refine below_set ?_ GE280.out|refine below_set ?_ GE281.out)|exact HB.out),by repeat (first|(with_reducible first|exact HK.out|apply Kept.alloc|apply Kept.drewN|apply Kept.drew|refine Kept.setCell ?_ (.inr GW280.out) _|refine Kept.setCell ?_ (.inr GW281.out) _)|exact HK.out)⟩
 ·replace c3:=Bool.eq_false_iff.mpr c3
  subst c3
  rw [if_neg (show ¬ (false = true) by decide)] at H
  simp only [Option.some.injEq,Prod.mk.injEq] at H
  obtain ⟨rfl,rfl,rfl,rfl⟩:=H
  obtain ⟨Ao13,co13,eo13⟩:=Kd.R_slice HO0_1.out
  subst eo13
  obtain ⟨Ao14,co14,eo14⟩:=Kd.R_slice HO0_2.out
  subst eo14
  go_enter Try.func49,Try.ntmps49
  go_wp2_with (first|((with_reducible refine gate_dst (N:=1) rfl ?_);refine box_event ?hg (N:=1) ?hd (cs:=#[.int .i64 a0_0,.slice Ao13 l0_1.length co13,.slice Ao14 l0_2.length co14]) (t:=29) ?hr ?_;(case hd=>rfl);(case hg=>rfl);(case hr=>first|(go_simp;done)|(go_simp;rfl));intro gb280 hg w15 hbox hb;have n0_:=Aside0.mk (Kd.R_below (rz HO0_1.out) hb);have n1_:=Aside0.mk (Kd.R_below (rz HO0_2.out) hb);have n2_:=Aside0.mk (Kept.below (S:=(fun k_=>P0_1_ k_ ∨ P0_2_ k_)) (by repeat (first|(with_reducible first|exact HK.out|apply Kept.alloc|apply Kept.drewN|apply Kept.drew)|exact HK.out)) hb);have n3_:=Aside0.mk (below_step bz hb);have n4_:=Aside0.mk (hbox);have n5_:=Aside0.mk ((by rw [hg];exact (by first|exact HK.out.1|exact (show Kept w _ (fun k_=>P0_1_ k_ ∨ P0_2_ k_) from by repeat (first|(with_reducible first|exact HK.out|apply Kept.alloc|apply Kept.drewN|apply Kept.drew)|exact HK.out)).1) : w.heap.size ≤ gb280));have n6_:=Aside0.mk ((by rw [hg];exact (below_size bz) : w0.heap.size ≤ gb280));clear HO0_1 HO0_2 HK HB;have HO0_1:=n0_;have HO0_2:=n1_;have HK:=n2_;have HB:=n3_;have BK280:=n4_;have GW280:=n5_;have GE280:=n6_;clear n0_ n1_ n2_ n3_ n4_ n5_ n6_;clear hb hbox hg)|((with_reducible refine gate_dst (N:=2) rfl ?_);refine box_event ?hg (N:=2) ?hd (cs:=#[.int .i64 0,.slice none 0 0,.slice none 0 0]) (t:=29) ?hr ?_;(case hd=>rfl);(case hg=>rfl);(case hr=>first|(go_simp;done)|(go_simp;rfl));intro gb281 hg w16 hbox hb;have n0_:=Aside0.mk (Kd.R_below (rz HO0_1.out) hb);have n1_:=Aside0.mk (Kd.R_below (rz HO0_2.out) hb);have n2_:=Aside0.mk (kb BK280.out hb);have n3_:=Aside0.mk (Kept.below (S:=(fun k_=>P0_1_ k_ ∨ P0_2_ k_)) (by repeat (first|(with_reducible first|exact HK.out|apply Kept.alloc|apply Kept.drewN|apply Kept.drew|refine Kept.setCell ?_ (.inr GW280.out) _)|exact HK.out)) hb);have n4_:=Aside0.mk (below_step bs hb);have n5_:=Aside0.mk (hbox);have n6_:=Aside0.mk ((by rw [hg];exact (by first|exact HK.out.1|exact (show Kept w _ (fun k_=>P0_1_ k_ ∨ P0_2_ k_) from by repeat (first|(with_reducible first|exact HK.out|apply Kept.alloc|apply Kept.drewN|apply Kept.drew|refine Kept.setCell ?_ (.inr GW280.out) _)|exact HK.out)).1) : w.heap.size ≤ gb281));have n7_:=Aside0.mk ((by rw [hg];exact (below_size bs) : w0.heap.size ≤ gb281));have n8_:=Aside0.mk (kn hg BK280.out);have n9_:=Aside0.mk (km hg BK280.out);clear HO0_1 HO0_2 BK280 HK HB;have HO0_1:=n0_;have HO0_2:=n1_;have BK280:=n2_;have HK:=n3_;have HB:=n4_;have BK281:=n5_;have GW281:=n6_;have GE281:=n7_;have NB280_281:=n8_;have NB281_280:=n9_;clear n0_ n1_ n2_ n3_ n4_ n5_ n6_ n7_ n8_ n9_;clear hb hbox hg;have hnb17:=NB280_281.out;have hnc17:=NB281_280.out;have hcz18_0 : w16.cell? ⟨gb280,0,none⟩ = some (.int .i64 a0_0):=(blk_cell BK280.out 0).trans rfl;have hcz18_1 : w16.cell? ⟨gb280,1,none⟩ = some (.slice Ao13 l0_1.length co13):=(blk_cell BK280.out 1).trans rfl;have hcz18_2 : w16.cell? ⟨gb280,2,none⟩ = some (.slice Ao14 l0_2.length co14):=(blk_cell BK280.out 2).trans rfl;have hfz18_0:=blk_frozen BK280.out 0;have hfz18_1:=blk_frozen BK280.out 1;have hfz18_2:=blk_frozen BK280.out 2)|((with_reducible refine gate_callee (f:=44) rfl ?_);refine goesL_ (some 5) rfl rfl Try.func44 (by kernel_rfl) rfl #[.agg #[.int .i64 a0_0,.slice Ao13 l0_1.length co13,.slice Ao14 l0_2.length co14]] rfl mz ?_;(with_reducible refine (impl_IsPlan.calls k a0_0 _ _ l0_1 _ _ l0_2 false _ ?side1 ?side2 ?side3 ?side4 A2.out).mono ?_);(case side1=>exact cz (Kd.R_reads' HO0_1.out).2.2);(case side2=>exact (Kd.R_reads' HO0_1.out).2.1);(case side3=>exact cz (Kd.R_reads' HO0_2.out).2.2);(case side4=>exact (Kd.R_reads' HO0_2.out).2.1);rintro e w19 ⟨rfl,hb⟩;refine ⟨_,rfl,?_⟩;have n0_:=Aside0.mk (Kd.R_below (rz HO0_1.out) hb);have n1_:=Aside0.mk (Kd.R_below (rz HO0_2.out) hb);have n2_:=Aside0.mk (kb BK280.out hb);have n3_:=Aside0.mk (kb BK281.out hb);have n4_:=Aside0.mk (Kept.below (S:=(fun k_=>P0_1_ k_ ∨ P0_2_ k_)) (by repeat (first|(with_reducible first|exact HK.out|apply Kept.alloc|apply Kept.drewN|apply Kept.drew|refine Kept.setCell ?_ (.inr GW280.out) _|refine Kept.setCell ?_ (.inr GW281.out) _)|exact HK.out)) hb);have n5_:=Aside0.mk (below_step bs hb);clear HO0_1 HO0_2 BK280 BK281 HK HB;have HO0_1:=n0_;have HO0_2:=n1_;have BK280:=n2_;have BK281:=n3_;have HK:=n4_;have HB:=n5_;clear n0_ n1_ n2_ n3_ n4_ n5_;(try clear hb);have hcz20_0 : w19.cell? ⟨gb281,0,none⟩ = some (.int .i64 0):=(blk_cell BK281.out 0).trans rfl;have hcz20_1 : w19.cell? ⟨gb281,1,none⟩ = some (.slice none 0 0):=(blk_cell BK281.out 1).trans rfl;have hcz20_2 : w19.cell? ⟨gb281,2,none⟩ = some (.slice none 0 0):=(blk_cell BK281.out 2).trans rfl;have hfz20_0:=blk_frozen BK281.out 0;have hfz20_1:=blk_frozen BK281.out 1;have hfz20_2:=blk_frozen BK281.out 2))
  refine bodyPost_ret (results_ct rfl _ _ gb281 29 #[.int .i64 0,.slice none 0 0,.slice none 0 0] (0,0) _ rfl (by (with_reducible repeat (first|refine blk_drewN ?_ _|refine blk_drew ?_|refine blk_alloc ?_ _));refine blk_put (cs:=#[.int .i64 0,.slice none 0 0,.slice none 0 0]) ?_ 2 _ rfl;(with_reducible repeat (first|refine blk_drewN ?_ _|refine blk_drew ?_|refine blk_alloc ?_ _));refine blk_put (cs:=#[.int .i64 0,.slice none 0 0,.slice none 0 0]) ?_ 1 _ rfl;(with_reducible repeat (first|refine blk_drewN ?_ _|refine blk_drew ?_|refine blk_alloc ?_ _));refine blk_put (cs:=#[.int .i64 0,.slice none 0 0,.slice none 0 0]) ?_ 0 _ rfl;(with_reducible repeat (first|refine blk_drewN ?_ _|refine blk_drew ?_|refine blk_alloc ?_ _));exact BK281.out) Try.underlying29 rfl (by kernel_rfl)) rfl ?_
  exact ⟨_,_,by first|rfl|(simp [errW_none,errW_some] <;> rfl)|(simp [*,errW_none,errW_some] <;> rfl),by first|exact Kd.R_nil _ _ _ _ _|exact Kd.N_nil _ _ _ _ _|exact Kd.V_nil _ _ _ _ _|exact Kd.Q_nil _ _ _ _ _|exact Kd.S_nil _ _ _ _ _,by first|exact Kd.R_nil _ _ _ _ _|exact Kd.N_nil _ _ _ _ _|exact Kd.V_nil _ _ _ _ _|exact Kd.Q_nil _ _ _ _ _|exact Kd.S_nil _ _ _ _ _,by repeat (first|(with_reducible first|exact HB.out|apply below_alloc|apply pw_below_drewN|apply below_drew1|refine below_set ?_ GE280.out|refine below_set ?_ GE281.out)|exact HB.out),by repeat (first|(with_reducible first|exact HK.out|apply Kept.alloc|apply Kept.drewN|apply Kept.drew|refine Kept.setCell ?_ (.inr GW280.out) _|refine Kept.setCell ?_ (.inr GW281.out) _)|exact HK.out)⟩
/-! ### impl_step: function 65 -/
def impl_step.f (a0 : Int) (a1 : Int) : Option (Int × Int):=some (mn a0 a1,mx a0 a1)
set_option maxHeartbeats 8000000 in
set_option maxRecDepth 100000 in
theorem impl_step.calls (a0 : Int) (a1 : Int) (r1 : Int) (r2 : Int) (w : World) (h : impl_step.f a0 a1 = some (r1,r2)) :
  Calls Try.prog 65 #[.int .i64 a0,.int .i64 a1] w fun e w'=>e = .returned (.agg #[.int .i64 r1,.int .i64 r2]) ∧ Below w.heap.size w w':=by
 have hu73:=Try.underlying73
 have HB:=Aside0.mk (Below.refl w.heap.size w)
 have H : (some (mn a0 a1,mx a0 a1)) = some (r1,r2):=h
 clear h
 obtain ⟨ji3,hji3⟩ : ∃ j_ : Int,(mn a0 a1) = j_:=⟨_,rfl⟩
 replace H : (some (ji3,mx a0 a1)) = some (r1,r2):=by first|(rw [hji3] at H;exact H)|(simp only [hji3] at H ⊢;exact H)
 have hji3_ : (if a1 < a0 then a1 else a0) = ji3:=hji3
 obtain ⟨ji4,hji4⟩ : ∃ j_ : Int,(mx a0 a1) = j_:=⟨_,rfl⟩
 replace H : (some (ji3,ji4)) = some (r1,r2):=by first|(rw [hji4] at H;exact H)|(simp only [hji4] at H ⊢;exact H)
 have hji4_ : (if a0 < a1 then a1 else a0) = ji4:=hji4
 simp only [Option.some.injEq,Prod.mk.injEq] at H
 obtain ⟨rfl,rfl⟩:=H
 go_enter Try.func65,Try.ntmps65
 go_wp2_with (first|((with_reducible refine gate_dst (N:=4) rfl ?_);refine box_event ?hg (N:=4) ?hd (cs:=#[.int .i64 0,.int .i64 0]) (t:=73) ?hr ?_;(case hd=>rfl);(case hg=>rfl);(case hr=>first|(go_simp;done)|(go_simp;rfl));intro gb283 hg w5 hbox hb;have n0_:=Aside0.mk (below_step bz hb);have n1_:=Aside0.mk (hbox);have n2_:=Aside0.mk ((by rw [hg];exact (below_size bz) : w.heap.size ≤ gb283));have n3_:=Aside0.mk ((by rw [hg];exact (below_size bz) : w.heap.size ≤ gb283));clear HB;have HB:=n0_;have BK283:=n1_;have GW283:=n2_;have GE283:=n3_;clear n0_ n1_ n2_ n3_;clear hb hbox hg;have hcz6_0 : w5.cell? ⟨gb283,0,none⟩ = some (.int .i64 0):=(blk_cell BK283.out 0).trans rfl;have hcz6_1 : w5.cell? ⟨gb283,1,none⟩ = some (.int .i64 0):=(blk_cell BK283.out 1).trans rfl;have hfz6_0:=blk_frozen BK283.out 0;have hfz6_1:=blk_frozen BK283.out 1))
 refine bodyPost_ret (results_cell_row rfl _ _ gb283 73 #[.int .i64 ji3,.int .i64 ji4] (0,0) _ rfl (by (with_reducible repeat (first|refine blk_drewN ?_ _|refine blk_drew ?_|refine blk_alloc ?_ _));refine blk_put (cs:=#[.int .i64 ji3,.int .i64 0]) ?_ 1 _ rfl;(with_reducible repeat (first|refine blk_drewN ?_ _|refine blk_drew ?_|refine blk_alloc ?_ _));refine blk_put (cs:=#[.int .i64 0,.int .i64 0]) ?_ 0 _ rfl;(with_reducible repeat (first|refine blk_drewN ?_ _|refine blk_drew ?_|refine blk_alloc ?_ _));exact BK283.out) Try.underlying73 rfl (by kernel_rfl)) rfl ?_
 exact ⟨by first|rfl|(simp [errW_none,errW_some] <;> rfl)|(simp only [← hji3,← hji4];first|rfl|(simp [errW_none,errW_some] <;> rfl))|(simp [*,errW_none,errW_some] <;> rfl),by repeat (first|(with_reducible first|exact HB.out|apply below_alloc|apply pw_below_drewN|apply below_drew1|refine below_set ?_ GE283.out)|exact HB.out)⟩
/-! ### slices_Equal_int_int: function 109 -/
def slices_Equal_int_int.l0 : Nat → List Int → List Int → Int → Int → Option (Bool)
 | 0,_,_,_,_=>none
 | k + 1,x0,x1,x12,x13=>if x13 < x12 then (if 0 ≤ x13 then (if x13 < (x0.length : Int) then (if x13 < (x1.length : Int) then (if (rd x0 x13) = (rd x1 x13) then (slices_Equal_int_int.l0 k x0 x1 x12 (wrap64 (x13 + 1))) else (some false)) else (none)) else (none)) else (none)) else (some true)
def slices_Equal_int_int.f (k : Nat) (l0 : List Int) (l1 : List Int) : Option (Bool):=if (l0.length : Int) = (l1.length : Int) then (slices_Equal_int_int.l0 k l0 l1 (l0.length : Int) 0) else (some false)
theorem slices_Equal_int_int.mono_l : ∀ k,(∀ y0 y1 y2 y3,LeO (slices_Equal_int_int.l0 k y0 y1 y2 y3) (slices_Equal_int_int.l0 (k + 1) y0 y1 y2 y3))
 | 0=>fun _ _ _ _ r h=>by simp [slices_Equal_int_int.l0] at h
 | k + 1=>by
  have ih0:=slices_Equal_int_int.mono_l k
  ·intro y0 y1 y2 y3
   unfold slices_Equal_int_int.l0
   repeat' first
   | (with_reducible exact ih0 _ _ _ _)
   | (with_reducible exact LeO.refl _)
   | (with_reducible exact LeO.none _)
   | (with_reducible refine LeO.ite ?_ ?_)
   | (with_reducible refine LeO.bind ?_ (fun _=>?_))
   | exact ih0 _ _ _ _
   | exact LeO.none _
   | refine LeO.ite ?_ ?_
   | refine LeO.bind ?_ (fun _=>?_)
theorem slices_Equal_int_int.mono : ∀ a0 a1 k,LeO (slices_Equal_int_int.f k a0 a1) (slices_Equal_int_int.f (k + 1) a0 a1):=by
 intro a0 a1 k
 have ih0:=slices_Equal_int_int.mono_l k
 unfold slices_Equal_int_int.f
 repeat' first
   | (with_reducible exact ih0 _ _ _ _)
   | (with_reducible exact LeO.refl _)
   | (with_reducible exact LeO.none _)
   | (with_reducible refine LeO.ite ?_ ?_)
   | (with_reducible refine LeO.bind ?_ (fun _=>?_))
   | exact ih0 _ _ _ _
   | exact LeO.none _
   | refine LeO.ite ?_ ?_
   | refine LeO.bind ?_ (fun _=>?_)
set_option maxHeartbeats 8000000 in
set_option maxRecDepth 100000 in
theorem slices_Equal_int_int.calls (k : Nat) (A0 : Option Addr) (c0 : Nat) (l0 : List Int) (A1 : Option Addr) (c1 : Nat) (l1 : List Int) (r : Bool) (w : World) (hr0 : Kd.C (Kd.int .i64) w A0 l0.length l0) (hc0 : l0.length ≤ c0) (hr1 : Kd.C (Kd.int .i64) w A1 l1.length l1) (hc1 : l1.length ≤ c1) (h : slices_Equal_int_int.f k l0 l1 = some r) :
  Calls Try.prog 109 #[.slice A0 l0.length c0,.slice A1 l1.length c1] w fun e w'=>e = .returned (.bool r) ∧ Drawn0 w w':=by
 have HR0:=Aside0.mk hr0
 have HC0:=Aside0.mk hc0
 clear hr0 hc0
 have HR1:=Aside0.mk hr1
 have HC1:=Aside0.mk hc1
 clear hr1 hc1
 have H : (if (l0.length : Int) = (l1.length : Int) then (slices_Equal_int_int.l0 k l0 l1 (l0.length : Int) 0) else (some false)) = some r:=h
 clear h
 by_cases c3 : (l0.length : Int) = (l1.length : Int)
 ·rw [if_pos c3] at H
  have c3b0 : ((l0.length : Int) == (l1.length : Int)) = true:=beq_iff_eq.mpr c3
  have c3b1 : ((l0.length : Int) != (l1.length : Int)) = false:=bne_eq_false_iff_eq.mpr c3
  have c3b2 : (l0.length == l1.length) = true:=by first|simpa using c3|(simp at c3 ⊢;omega)
  clear c3
  have H':=Aside0.mk H
  clear H
  go_enter Try.func109,Try.ntmps109
  go_wp2
  repeat (go_quiet (fail);try go_wp2)
  go_loopg [13] k (fun kq v13 w'=>∃ (x13_1 : Int),v13 = .int .i64 x13_1 ∧ Aside0 (slices_Equal_int_int.l0 kq l0 l1 (l0.length : Int) x13_1 = some r) ∧ Aside0 (kq ≤ k) ∧ Drawn0 w w')
  case atStart=>exact ⟨(0),fz,H',⟨Nat.le_refl _⟩,by repeat (first|exact Drawn0.refl _|apply Drawn0.step)⟩
  case round=>
   clear H'
   try clear c1
   try clear p2
   try clear c3
   try clear c3b0
   try clear c3b1
   try clear c3b2
   obtain ⟨x13_1,rfl,HA,HK1,⟨m1,rfl⟩⟩:=hrel
   cases gk with
   | zero=>exact absurd HA.out (by simp [slices_Equal_int_int.l0])
   | succ k1=>
    have H:=HA.out
    clear HA
    simp only [slices_Equal_int_int.l0] at H
    by_cases c4 : x13_1 < (l0.length : Int)
    ·rw [if_pos c4] at H
     have c4b0 : decide (x13_1 < (l0.length : Int)) = true:=decide_eq_true c4
     clear c4
     by_cases c5 : 0 ≤ x13_1
     ·rw [if_pos c5] at H
      have c5b0 : decide (0 ≤ x13_1) = true:=decide_eq_true c5
      clear c5
      by_cases c6 : x13_1 < (l0.length : Int)
      ·rw [if_pos c6] at H
       have c6b0 : decide (x13_1 < (l0.length : Int)) = true:=decide_eq_true c6
       clear c6
       by_cases c7 : x13_1 < (l1.length : Int)
       ·rw [if_pos c7] at H
        have c7b0 : decide (x13_1 < (l1.length : Int)) = true:=decide_eq_true c7
        clear c7
        by_cases c8 : (rd l0 x13_1) = (rd l1 x13_1)
        ·rw [if_pos c8] at H
         have c8b0 : ((rd l0 x13_1) == (rd l1 x13_1)) = true:=beq_iff_eq.mpr c8
         have c8b1 : ((rd l0 x13_1) != (rd l1 x13_1)) = false:=bne_eq_false_iff_eq.mpr c8
         clear c8
         have H':=Aside0.mk H
         clear H
         have p284 : 0 ≤ (x13_1 : Int):=of_decide_eq_true az
         have q284 : x13_1 < (l0.length : Int):=of_decide_eq_true az
         obtain ⟨ad284,e284,hx284_0⟩:=Kd.at_int HR0.out x13_1 p284 q284
         cases e284
         replace p284:=eq_true p284
         replace q284:=eq_true q284
         have p285 : 0 ≤ (x13_1 : Int):=of_decide_eq_true az
         have q285 : x13_1 < (l1.length : Int):=of_decide_eq_true az
         obtain ⟨ad285,e285,hx285_0⟩:=Kd.at_int HR1.out x13_1 p285 q285
         cases e285
         replace p285:=eq_true p285
         replace q285:=eq_true q285
         go_wp2
         repeat (go_quiet (fail);try go_wp2)
         go_roundg k1
         case measure=>have:=HK1.out;omega
         case rel=>exact ⟨(wrap64 (x13_1 + 1)),fz,H',⟨by have:=HK1.out;omega⟩,by repeat (first|exact Drawn0.refl _|apply Drawn0.step)⟩
        ·rw [if_neg c8] at H
         have c8b0 : ((rd l0 x13_1) == (rd l1 x13_1)) = false:=beq_eq_false_iff_ne.mpr c8
         have c8b1 : ((rd l0 x13_1) != (rd l1 x13_1)) = true:=bne_iff_ne.mpr c8
         obtain rfl:=Option.some.inj H
         have p284 : 0 ≤ (x13_1 : Int):=of_decide_eq_true az
         have q284 : x13_1 < (l0.length : Int):=of_decide_eq_true az
         obtain ⟨ad284,e284,hx284_0⟩:=Kd.at_int HR0.out x13_1 p284 q284
         cases e284
         replace p284:=eq_true p284
         replace q284:=eq_true q284
         have p285 : 0 ≤ (x13_1 : Int):=of_decide_eq_true az
         have q285 : x13_1 < (l1.length : Int):=of_decide_eq_true az
         obtain ⟨ad285,e285,hx285_0⟩:=Kd.at_int HR1.out x13_1 p285 q285
         cases e285
         replace p285:=eq_true p285
         replace q285:=eq_true q285
         go_wp2
         repeat (go_quiet (fail);try go_wp2)
         go_ret
         exact ⟨by first|rfl|(simp;done)|(simp [*];done),by repeat (first|exact Drawn0.refl _|apply Drawn0.step)⟩
       ·rw [if_neg c7] at H
        exact absurd H (by simp)
      ·rw [if_neg c6] at H
       exact absurd H (by simp)
     ·rw [if_neg c5] at H
      exact absurd H (by simp)
    ·rw [if_neg c4] at H
     have c4b0 : decide (x13_1 < (l0.length : Int)) = false:=decide_eq_false c4
     clear c4
     obtain rfl:=Option.some.inj H
     go_wp2
     repeat (go_quiet (fail);try go_wp2)
     go_ret
     exact ⟨by first|rfl|(simp;done)|(simp [*];done),by repeat (first|exact Drawn0.refl _|apply Drawn0.step)⟩
 ·rw [if_neg c3] at H
  have c3b0 : ((l0.length : Int) == (l1.length : Int)) = false:=beq_eq_false_iff_ne.mpr c3
  have c3b1 : ((l0.length : Int) != (l1.length : Int)) = true:=bne_iff_ne.mpr c3
  have c3b2 : (l0.length == l1.length) = false:=by first|simpa using c3|(simp at c3 ⊢;omega)
  obtain rfl:=Option.some.inj H
  go_enter Try.func109,Try.ntmps109
  go_wp2
  repeat (go_quiet (fail);try go_wp2)
  go_ret
  exact ⟨by first|rfl|(simp;done)|(simp [*];done),by repeat (first|exact Drawn0.refl _|apply Drawn0.step)⟩
end Go.Proofs.Ytdcdaoancmpbeaa.MFnExactReorderSteps
--sq
