import Derived.Test.YtlefjgpkabijdaaGreatDoorMFnChainsArePlansx0
import Derived.Test.YtlefjgpkabijdaaGreatDoorMFnChainsArePlansx3
import Derived.Test.YtlefjgpkabijdaaGreatDoorMFnChainsArePlansx4
import Derived.Test.YtlefjgpkabijdaaGreatDoorMFnChainsArePlansx5
import Derived.Test.YtlefjgpkabijdaaGreatDoorMFnChainsArePlansx1
import Derived.Test.YtlefjgpkabijdaaGreatDoorMFnChainsArePlansx2
namespace Go.Proofs.YtlefjgpkabijdaaGreatDoor.MFnChainsArePlans
open Go.RowKit Go.Proofs.YtlefjgpkabijdaaGreatDoorW.PrintWords Go.Proofs.YtlefjgpkabijdaaGreatDoorW.PrintLast Go.Proofs.YtlefjgpkabijdaaGreatDoorW.PrintMore Go.Proofs.YtlefjgpkabijdaaGreatDoorV Go.Proofs.YtlefjgpkabijdaaGreatDoorZ
attribute [local go_sem] max2_int min2_int max_two min_two max_three min_three max_four min_four   -- for this text's walks alone
set_option linter.unusedVariables false
set_option linter.unusedSimpArgs false
/-! ### impl_IsPlan: function 24 -/
def impl_IsPlan.steps (n : Int) (ss : List (S41)) : Nat → Nat → Bool
 | 0,_=>true
 | d + 1,i=>if (rd_T41 ss i).f0 < 0 then false else if (rd_T41 ss i).f0 > (rd_T41 ss i).f1 then false else if (rd_T41 ss i).f1 ≥ n + i then false else impl_IsPlan.steps n ss d (i + 1)
def impl_IsPlan.outs (n : Int) (ss : List (S41)) (os : List Int) (j : Nat) : Bool:=!(decide (0 ≤ rd os j) && decide (rd os j ≤ n + ss.length - 1))
def impl_IsPlan.formed (n : Int) (ss : List (S41)) (os : List Int) : Bool:=
 if 1 ≤ n ∧ n ≤ 6 then (if ss.length ≤ 40 then (if os.length ≤ 6 then (if impl_IsPlan.steps n ss ss.length 0 = true then !(Go.Proofs.YtlefjgpkabijdaaGreatDoorH.anyIx (impl_IsPlan.outs n ss os) os.length 0) else false) else false) else false) else false
def impl_IsPlan.IsP (w0 W : World) (g : Nat) (n : Int) (ss : List (S41)) (os : List Int) : Prop:=∃ A1 c1 A2 c2,W.heap[g]? = some (.cells #[.int .i64 n,.slice A1 ss.length c1,.slice A2 os.length c2] 28 (0,0)) ∧ w0.heap.size ≤ g ∧ Kd.C k41 w0 A1 ss.length ss ∧ Kd.C (Kd.int .i64) w0 A2 os.length os
theorem impl_IsPlan.IsP.below {w0 W W1 : World} {g : Nat} {n : Int} {ss : List (S41)} {os : List Int} (h : impl_IsPlan.IsP w0 W g n ss os) (hw : Below W.heap.size W W1) : impl_IsPlan.IsP w0 W1 g n ss os:=by
 obtain ⟨A1,c1,A2,c2,hb,r⟩:=h
 exact ⟨A1,c1,A2,c2,(hw.block g (blk_lt hb)).trans hb,r⟩
set_option maxHeartbeats 2000000 in
set_option maxRecDepth 100000 in
theorem impl_IsPlan.many_reads (g : Nat) (n : Int) (ss : List S41) (os : List Int) (w0 w : World) (hI : impl_IsPlan.IsP w0 w g n ss os) :
  Calls Tryz.prog 56 #[.pointer (some ⟨g,0,none⟩)] w fun e w'=>e = .returned (.int .i64 (wrap64 (n + ss.length))) ∧ Drawn0 w w':=by
 obtain ⟨A1,c1,A2,c2,HG,hge,HS1,HS2⟩:=hI
 have hc0 : w.cell? ⟨g,0,none⟩ = some (.int .i64 n):=(blk_cell HG 0).trans rfl
 have hc1 : w.cell? ⟨g,1,none⟩ = some (.slice A1 ss.length c1):=(blk_cell HG 1).trans rfl
 have hc2 : w.cell? ⟨g,2,none⟩ = some (.slice A2 os.length c2):=(blk_cell HG 2).trans rfl
 have hf:=blk_frozen HG 0
 clear HG hge
 go_enter Tryz.func56,Tryz.ntmps56
 go_wp2
 repeat (go_quiet (fail);try go_wp2)
 go_ret
 exact ⟨rfl,by repeat (first|exact Drawn0.refl _|apply Drawn0.step)⟩
set_option maxHeartbeats 2000000 in
set_option maxRecDepth 100000 in
theorem impl_IsPlan.out_calls (B g : Nat) (n : Int) (ss : List S41) (os : List Int) (w0 w : World) (v : Int) (hI : impl_IsPlan.IsP w0 w g n ss os) (hc : w.cell? ⟨B,0,none⟩ = some (.pointer (some ⟨g,0,none⟩))) (h1 : 1 ≤ n) (h2 : n ≤ 6) (h3 : ss.length ≤ 40) :
  Calls Tryz.prog 55 #[.int .i64 v,.pointer (some ⟨B,0,none⟩)] w fun e w'=>e = .returned (.bool (!(decide (0 ≤ v) && decide (v ≤ n + ss.length - 1)))) ∧ Below w.heap.size w w':=by
 obtain ⟨r,hr⟩ : ∃ r,r = (decide (0 ≤ v) && decide (v ≤ n + ss.length - 1)):=⟨_,rfl⟩
 have hin : impl_in.f v 0 (n + ss.length - 1) = some r:=by
  unfold impl_in.f
  by_cases c : v ≥ 0
  ·rw [if_pos c,hr,decide_eq_true (show 0 ≤ v from c),Bool.true_and]
  ·rw [if_neg c,hr,decide_eq_false (show ¬ 0 ≤ v from c),Bool.false_and]
 rw [← hr]
 have HM:=Aside0.mk (impl_IsPlan.many_reads g n ss os w0 w hI)
 have HIN:=Aside0.mk hin
 clear hr hin hI
 have e1 : wrap64 (n + (ss.length : Int)) = n + ss.length:=by unfold wrap64;omega
 have e2 : wrap64 (n + (ss.length : Int) - 1) = n + ss.length - 1:=by unfold wrap64;omega
 generalize n + (ss.length : Int) = m at *
 go_enter Tryz.func55,Tryz.ntmps55
 go_wp2_with (first|(go_at_call 56;refine HM.out.mono ?_;rw [e1];rintro e w1 ⟨rfl,hd1⟩;have HD1:=Aside0.mk hd1;clear hd1)|(go_at_call 22;refine (impl_in.calls _ _ _ r _ (by first|exact HIN.out|(rw [e2];exact HIN.out))).mono ?_;rintro e w2 ⟨rfl,hd2⟩;have HD2:=Aside0.mk hd2;clear hd2))
 go_ret
 exact ⟨rfl,HD1.out.below.trans (HD2.out.below.mono HD1.out.below.size)⟩
set_option maxHeartbeats 2000000 in
set_option maxRecDepth 100000 in
theorem impl_IsPlan.formed_calls (g : Nat) (n : Int) (ss : List S41) (os : List Int) (w0 w : World) (hI : impl_IsPlan.IsP w0 w g n ss os) (hB : Below w0.heap.size w0 w) :
  Calls Tryz.prog 39 #[.pointer (some ⟨g,0,none⟩)] w fun e w'=>e = .returned (.bool (impl_IsPlan.formed n ss os)) ∧ Below w.heap.size w w':=by
 obtain ⟨r,hr⟩ : ∃ r,r = impl_IsPlan.formed n ss os:=⟨_,rfl⟩
 rw [← hr]
 unfold impl_IsPlan.formed at hr
 obtain ⟨A1,cc1,A2,cc2,HG,hge,HS1,HS2⟩:=id hI
 have hc0 : w.cell? ⟨g,0,none⟩ = some (.int .i64 n):=(blk_cell HG 0).trans rfl
 have hc1 : w.cell? ⟨g,1,none⟩ = some (.slice A1 ss.length cc1):=(blk_cell HG 1).trans rfl
 have hc2 : w.cell? ⟨g,2,none⟩ = some (.slice A2 os.length cc2):=(blk_cell HG 2).trans rfl
 have HI:=Aside0.mk hI
 clear HG hI hge
 by_cases c1 : 1 ≤ n ∧ n ≤ 6
 ·rw [if_pos c1] at hr
  have HIN:=Aside0.mk (show impl_in.f n 1 6 = some true by unfold impl_in.f;rw [if_pos c1.1,decide_eq_true c1.2])
  by_cases c2 : ss.length ≤ 40
  ·rw [if_pos c2] at hr
   have b2 : decide ((40 : Int) < (ss.length : Int)) = false:=by rw [decide_eq_false_iff_not];omega
   by_cases c3 : os.length ≤ 6
   ·rw [if_pos c3] at hr
    have b3 : decide ((6 : Int) < (os.length : Int)) = false:=by rw [decide_eq_false_iff_not];omega
    have HR:=Aside0.mk hr
    clear hr
    have HS:=Aside0.mk HS1
    have HO:=Aside0.mk HS2
    have HBB:=Aside0.mk hB
    clear HS1 HS2 hB
    go_enter Tryz.func39,Tryz.ntmps39
    go_wp2_with (first|((with_reducible refine gate_dst (N:=1) rfl ?_);refine box_event ?hg (N:=1) ?hd (cs:=#[.pointer (some ⟨g,0,none⟩)]) (t:=73) ?hr ?_;(case hd=>rfl);(case hg=>rfl);(case hr=>first|(go_simp;done)|(go_simp;rfl));intro gb hg w4 hbox hb;have d0:=pw_cell_below hb hc0;have d1:=pw_cell_below hb hc1;have d2:=pw_cell_below hb hc2;have db : w4.cell? ⟨gb,0,none⟩ = some (.pointer (some ⟨g,0,none⟩)):=(blk_cell hbox 0).trans rfl;have HGB:=Aside0.mk hg;have HB:=Aside0.mk hb;clear hb hbox hg)|(go_at_call 22;refine (impl_in.calls _ _ _ _ _ HIN.out).mono ?_;rintro e w2 ⟨rfl,hd2⟩;have HD2:=Aside0.mk hd2.below;replace d0:=pw_cell_below hd2.below d0;replace d1:=pw_cell_below hd2.below d1;replace d2:=pw_cell_below hd2.below d2;replace db:=pw_cell_below hd2.below db;clear hd2))
    go_loopg [32] ss.length (fun gg s32 wr=>∃ kk : Nat,Aside0 (kk ≤ ss.length ∧ ss.length - kk ≤ gg ∧ (r = if impl_IsPlan.steps n ss (ss.length - kk) kk = true then !(Go.Proofs.YtlefjgpkabijdaaGreatDoorH.anyIx (impl_IsPlan.outs n ss os) os.length 0) else false) ∧ Below w2.heap.size w2 wr) ∧ s32 = .int .i64 kk)
    case atStart=>exact ⟨0,⟨⟨Nat.zero_le _,by omega,HR.out,Below.refl _ _⟩⟩,rfl⟩
    case round=>
     obtain ⟨kk,HK,rfl⟩:=hrel
     obtain ⟨h1,h2,h3,hb⟩:=HK.out
     clear HK
     have HB2:=Aside0.mk ((HBB.out.trans (HB.out.mono HBB.out.size)).trans (HD2.out.mono (Nat.le_trans HBB.out.size HB.out.size)))
     replace d0:=pw_cell_below hb d0
     replace d1:=pw_cell_below hb d1
     replace d2:=pw_cell_below hb d2
     replace db:=pw_cell_below hb db
     by_cases hlt : kk < ss.length
     ·have hltz : (kk : Int) < (ss.length : Int):=by omega
      obtain ⟨ad,e1,hx0,hx1⟩:=at_T41 HS.out (kk : Int) (by omega) hltz
      subst e1
      rw [Int.toNat_natCast] at hx0 hx1
      replace hx0:=pw_cell_below hb (pw_cell_below HB2.out hx0)
      replace hx1:=pw_cell_below hb (pw_cell_below HB2.out hx1)
      obtain ⟨m,hm⟩ : ∃ m,ss.length - kk = m + 1:=⟨ss.length - kk - 1,by omega⟩
      rw [hm,impl_IsPlan.steps] at h3
      generalize (rd_T41 ss kk).f0 = a at *
      generalize (rd_T41 ss kk).f1 = b at *
      have HBR:=Aside0.mk hb
      have HM:=Aside0.mk hm
      have H2:=Aside0.mk h2
      have e2 : wrap64 (n + (kk : Int)) = n + kk:=by unfold wrap64;omega
      have HW:=Aside0.mk (HB.out.trans (HD2.out.mono HB.out.size))
      have d0a : (wr.alloc (Obj.cells #[.int .i64 a,.int .i64 b] 41)).cell? ⟨g,0,none⟩ = some (.int .i64 n):=pw_cell_below (below_alloc (Below.refl _ _) _) d0
      have dba : (wr.alloc (Obj.cells #[.int .i64 a,.int .i64 b] 41)).cell? ⟨gb,0,none⟩ = some (.pointer (some ⟨g,0,none⟩)):=pw_cell_below (below_alloc (Below.refl _ _) _) db
      clear hb hm h2
      by_cases k1 : a < 0
      ·rw [if_pos k1] at h3
       have H3:=Aside0.mk (show r = false from h3)
       clear h3
       have b4 : decide (a < 0) = true:=decide_eq_true k1
       go_wp2
       repeat (go_quiet (fail);try go_wp2)
       go_ret
       refine ⟨by rw [H3.out];rfl,HW.out.trans (Below.mono ?_ HW.out.size)⟩
       repeat (first|exact HBR.out|apply below_alloc|apply below_drew1|apply pw_below_drewN)
      ·rw [if_neg k1] at h3
       have b4 : decide (a < 0) = false:=decide_eq_false k1
       by_cases k2 : a > b
       ·rw [if_pos k2] at h3
        have H3:=Aside0.mk (show r = false from h3)
        clear h3
        have b5 : decide (b < a) = true:=decide_eq_true k2
        go_wp2
        repeat (go_quiet (fail);try go_wp2)
        go_ret
        refine ⟨by rw [H3.out];rfl,HW.out.trans (Below.mono ?_ HW.out.size)⟩
        repeat (first|exact HBR.out|apply below_alloc|apply below_drew1|apply pw_below_drewN)
       ·rw [if_neg k2] at h3
        have b5 : decide (b < a) = false:=decide_eq_false k2
        by_cases k3 : b ≥ n + kk
        ·rw [if_pos k3] at h3
         have H3:=Aside0.mk (show r = false from h3)
         clear h3
         have b6 : decide (n + (kk : Int) ≤ b) = true:=decide_eq_true k3
         have b7 : decide (wrap64 (n + (kk : Int)) ≤ b) = true:=by rw [e2];exact b6
         go_wp2
         repeat (go_quiet (fail);try go_wp2)
         go_ret
         refine ⟨by rw [H3.out];rfl,HW.out.trans (Below.mono ?_ HW.out.size)⟩
         repeat (first|exact HBR.out|apply below_alloc|apply below_drew1|apply pw_below_drewN)
        ·rw [if_neg k3] at h3
         have H3:=Aside0.mk h3
         clear h3
         have b6 : decide (n + (kk : Int) ≤ b) = false:=decide_eq_false k3
         have b7 : decide (wrap64 (n + (kk : Int)) ≤ b) = false:=by rw [e2];exact b6
         go_wp2
         repeat (go_quiet (fail);try go_wp2)
         go_roundg (ss.length - (kk + 1))
         case measure=>have:=H2.out;have:=HM.out;omega
         case rel=>
          refine ⟨kk + 1,⟨⟨by omega,by omega,?_,?_⟩⟩,by go_num⟩
          ·rw [show ss.length - (kk + 1) = m by have:=HM.out;omega]
           exact H3.out
          ·repeat (first|exact HBR.out|apply below_alloc|apply below_drew1|apply pw_below_drewN)
     ·have hltz : ¬ (kk : Int) < (ss.length : Int):=by omega
      obtain rfl : kk = ss.length:=by omega
      rw [Nat.sub_self,impl_IsPlan.steps,if_pos rfl] at h3
      have HBR:=Aside0.mk hb
      have H3:=Aside0.mk h3
      have HW:=Aside0.mk (HB.out.trans (HD2.out.mono HB.out.size))
      have HA:=fun (hp : 0 < os.length)=>(show ∃ ad : Addr,A2 = some ad ∧ ∀ j,j < os.length → wr.cell? (ad.add j) = some (Value.int .i64 (rd os j)) from by
       obtain ⟨ad,e,_⟩:=Kd.at_int HO.out (0 : Int) (by omega) (by omega)
       subst e
       refine ⟨ad,rfl,fun j hj=>?_⟩
       obtain ⟨ad',e',h'⟩:=Kd.at_int HO.out (j : Int) (by omega) (by omega)
       obtain rfl : ad = ad':=by injection e'
       rw [Int.toNat_natCast] at h'
       exact pw_cell_below hb (pw_cell_below HB2.out h'))
      have HP:=fun (j : Nat) (hj : j < os.length) (W : World) (hW : Below wr.heap.size wr W)=>impl_IsPlan.out_calls gb g n ss os w0 W (rd os j) (impl_IsPlan.IsP.below (impl_IsPlan.IsP.below (impl_IsPlan.IsP.below (impl_IsPlan.IsP.below HI.out HB.out) HD2.out) hb) hW) (pw_cell_below hW db) c1.1 c1.2 c2
      have HC:=Aside0.mk (Go.Proofs.YtlefjgpkabijdaaGreatDoorH.contains_f69 wr A2 os.length cc2 (fun j=>.int .i64 (rd os j)) (impl_IsPlan.outs n ss os) 55 #[.pointer (some ⟨gb,0,none⟩)] (enters_of Tryz.func55 (by kernel_rfl) rfl) (by omega) HA HP)
      clear h3 hb HA HP h2
      go_wp2_with (go_at_call 54;refine HC.out.mono ?_;rintro e w6 ⟨rfl,hb6⟩;have HB6:=Aside0.mk hb6;clear hb6)
      go_ret
      refine ⟨?_,HW.out.trans ((HBR.out.trans (HB6.out.mono HBR.out.size)).mono HW.out.size)⟩
      rw [H3.out]
      rfl
   ·rw [if_neg c3] at hr
    subst hr
    have b3 : decide ((6 : Int) < (os.length : Int)) = true:=by rw [decide_eq_true_iff];omega
    clear HS1 HS2 hB
    go_enter Tryz.func39,Tryz.ntmps39
    go_wp2_with (first|((with_reducible refine gate_dst (N:=1) rfl ?_);refine box_event ?hg (N:=1) ?hd (cs:=#[.pointer (some ⟨g,0,none⟩)]) (t:=73) ?hr ?_;(case hd=>rfl);(case hg=>rfl);(case hr=>first|(go_simp;done)|(go_simp;rfl));intro gb hg w4 hbox hb;have d0:=pw_cell_below hb hc0;have d1:=pw_cell_below hb hc1;have d2:=pw_cell_below hb hc2;have db : w4.cell? ⟨gb,0,none⟩ = some (.pointer (some ⟨g,0,none⟩)):=(blk_cell hbox 0).trans rfl;have HGB:=Aside0.mk hg;have HB:=Aside0.mk hb;clear hb hbox hg)|(go_at_call 22;refine (impl_in.calls _ _ _ _ _ HIN.out).mono ?_;rintro e w2 ⟨rfl,hd2⟩;have HD2:=Aside0.mk hd2.below;replace d0:=pw_cell_below hd2.below d0;replace d1:=pw_cell_below hd2.below d1;replace d2:=pw_cell_below hd2.below d2;replace db:=pw_cell_below hd2.below db;clear hd2))
    go_ret
    exact ⟨rfl,HB.out.trans (HD2.out.mono HB.out.size)⟩
  ·rw [if_neg c2] at hr
   subst hr
   have b2 : decide ((40 : Int) < (ss.length : Int)) = true:=by rw [decide_eq_true_iff];omega
   clear HS1 HS2 hB
   go_enter Tryz.func39,Tryz.ntmps39
   go_wp2_with (first|((with_reducible refine gate_dst (N:=1) rfl ?_);refine box_event ?hg (N:=1) ?hd (cs:=#[.pointer (some ⟨g,0,none⟩)]) (t:=73) ?hr ?_;(case hd=>rfl);(case hg=>rfl);(case hr=>first|(go_simp;done)|(go_simp;rfl));intro gb hg w4 hbox hb;have d0:=pw_cell_below hb hc0;have d1:=pw_cell_below hb hc1;have d2:=pw_cell_below hb hc2;have db : w4.cell? ⟨gb,0,none⟩ = some (.pointer (some ⟨g,0,none⟩)):=(blk_cell hbox 0).trans rfl;have HGB:=Aside0.mk hg;have HB:=Aside0.mk hb;clear hb hbox hg)|(go_at_call 22;refine (impl_in.calls _ _ _ _ _ HIN.out).mono ?_;rintro e w2 ⟨rfl,hd2⟩;have HD2:=Aside0.mk hd2.below;replace d0:=pw_cell_below hd2.below d0;replace d1:=pw_cell_below hd2.below d1;replace d2:=pw_cell_below hd2.below d2;replace db:=pw_cell_below hd2.below db;clear hd2))
   go_ret
   exact ⟨rfl,HB.out.trans (HD2.out.mono HB.out.size)⟩
 ·rw [if_neg c1] at hr
  subst hr
  have HIN:=Aside0.mk (show impl_in.f n 1 6 = some false by unfold impl_in.f;by_cases h : n ≥ 1;rw [if_pos h,decide_eq_false (by omega)];rw [if_neg h])
  clear HS1 HS2 hB
  go_enter Tryz.func39,Tryz.ntmps39
  go_wp2_with (first|((with_reducible refine gate_dst (N:=1) rfl ?_);refine box_event ?hg (N:=1) ?hd (cs:=#[.pointer (some ⟨g,0,none⟩)]) (t:=73) ?hr ?_;(case hd=>rfl);(case hg=>rfl);(case hr=>first|(go_simp;done)|(go_simp;rfl));intro gb hg w4 hbox hb;have d0:=pw_cell_below hb hc0;have d1:=pw_cell_below hb hc1;have d2:=pw_cell_below hb hc2;have db : w4.cell? ⟨gb,0,none⟩ = some (.pointer (some ⟨g,0,none⟩)):=(blk_cell hbox 0).trans rfl;have HGB:=Aside0.mk hg;have HB:=Aside0.mk hb;clear hb hbox hg)|(go_at_call 22;refine (impl_in.calls _ _ _ _ _ HIN.out).mono ?_;rintro e w2 ⟨rfl,hd2⟩;have HD2:=Aside0.mk hd2.below;replace d0:=pw_cell_below hd2.below d0;replace d1:=pw_cell_below hd2.below d1;replace d2:=pw_cell_below hd2.below d2;replace db:=pw_cell_below hd2.below db;clear hd2))
  go_ret
  exact ⟨rfl,HB.out.trans (HD2.out.mono HB.out.size)⟩
/-- Is some row's greatest number too great. -/
def impl_IsPlan.top (k : Nat) : List (List Int) → Option Bool
 | []=>some false
 | x :: xs=>(slices_Max_int_int.f k x).bind fun m=>(impl_IsPlan.top k xs).bind fun b=>some (decide (m > 1000000) || b)
theorem impl_IsPlan.top_mono : ∀ (k : Nat) (xs : List (List Int)),LeO (impl_IsPlan.top k xs) (impl_IsPlan.top (k + 1) xs)
 | _,[]=>LeO.refl _
 | k,x :: xs=>LeO.bind (slices_Max_int_int.mono _ _) (fun _=>LeO.bind (impl_IsPlan.top_mono k xs) (fun _=>LeO.refl _))
def impl_IsPlan.pv (k : Nat) (rows : List (List Int)) (j : Nat) : Bool:=match slices_Max_int_int.f k (Go.Proofs.YtlefjgpkabijdaaGreatDoorH.rdRow rows j) with
 | some m=>decide (m > 1000000)
 | none=>false
theorem impl_IsPlan.top_any (k : Nat) (rows : List (List Int)) : ∀ (xs : List (List Int)) (i : Nat) (b : Bool),(∀ j : Nat,j < xs.length → Go.Proofs.YtlefjgpkabijdaaGreatDoorH.rdRow rows ((i + j : Nat) : Int) = xs.getD j []) → impl_IsPlan.top k xs = some b → (∀ j : Nat,j < xs.length → ∃ m,slices_Max_int_int.f k (Go.Proofs.YtlefjgpkabijdaaGreatDoorH.rdRow rows ((i + j : Nat) : Int)) = some m) ∧ Go.Proofs.YtlefjgpkabijdaaGreatDoorH.anyIx (impl_IsPlan.pv k rows) xs.length i = b
 | [],i,b,_,h=>by
  rw [impl_IsPlan.top] at h
  exact ⟨fun j hj=>absurd hj (Nat.not_lt_zero _),Option.some.inj h⟩
 | x :: xs,i,b,hx,h=>by
  rw [impl_IsPlan.top] at h
  obtain ⟨m,h1,h⟩:=Option.bind_eq_some_iff.mp h
  obtain ⟨b',h2,h⟩:=Option.bind_eq_some_iff.mp h
  have h0:=hx 0 (Nat.succ_pos _)
  rw [Nat.add_zero] at h0
  have hg : (x :: xs).getD 0 [] = x:=rfl
  rw [hg] at h0
  obtain ⟨k1,k2⟩:=impl_IsPlan.top_any k rows xs (i + 1) b' (fun j hj=>by
   have:=hx (j + 1) (Nat.succ_lt_succ hj)
   rw [show i + 1 + j = i + (j + 1) by omega,this];rfl) h2
  refine ⟨fun j hj=>?_,?_⟩
  ·cases j with
   | zero=>exact ⟨m,by rw [Nat.add_zero,h0];exact h1⟩
   | succ j=>
    have:=k1 j (Nat.lt_of_succ_lt_succ hj)
    rwa [show i + 1 + j = i + (j + 1) by omega] at this
  ·have hp : impl_IsPlan.pv k rows i = decide (m > 1000000):=by unfold impl_IsPlan.pv;rw [h0,h1]
   rw [List.length_cons,Go.Proofs.YtlefjgpkabijdaaGreatDoorH.anyIx,hp,k2]
   have:=Option.some.inj h
   rw [← this]
   cases decide (m > 1000000) <;> rfl
set_option maxHeartbeats 2000000 in
set_option maxRecDepth 100000 in
theorem impl_IsPlan.row_calls (k : Nat) (A : Option Addr) (c : Nat) (l : List Int) (m : Int) (w : World) (hr : Kd.C (Kd.int .i64) w A l.length l) (hc : l.length ≤ c) (h : slices_Max_int_int.f k l = some m) :
  Calls Tryz.prog 41 #[.slice A l.length c] w fun e w'=>e = .returned (.bool (decide (m > 1000000))) ∧ Below w.heap.size w w':=by
 have HX:=Aside0.mk (slices_Max_int_int.calls k A c l m w hr hc h)
 obtain ⟨b,hb⟩ : ∃ b,decide (m > 1000000) = b:=⟨_,rfl⟩
 have hb' : decide (1000000 < m) = b:=hb
 rw [hb]
 clear hr h hb
 go_enter Tryz.func41,Tryz.ntmps41
 go_wp2_with (go_at_call 42;refine HX.out.mono ?_;rintro e w1 ⟨rfl,hd1⟩;have HD1:=Aside0.mk hd1;clear hd1)
 go_ret
 exact ⟨rfl,HD1.out⟩
def impl_IsPlan.elOf (w : World) (A : Option Addr) (j : Nat) : Value:=match A with|some ad=>(w.cell? (ad.add j)).getD (.bool false)|none=>.bool false
theorem impl_IsPlan.elOf_some {w : World} {ad : Addr} {j : Nat} {v : Value} (h : w.cell? (ad.add j) = some v) : impl_IsPlan.elOf w (some ad) j = v:=by show (w.cell? (ad.add j)).getD (.bool false) = v;rw [h];rfl
theorem impl_IsPlan.some_calls (k : Nat) (rows : List (List Int)) (b : Bool) (base : Nat) (ok : Nat → Prop) (v : Value) (w : World) (hS : Kd.S (Kd.slice 3 (Kd.int .i64)) 24 w base ok v rows) (h : impl_IsPlan.top k rows = some b) :
  Calls Tryz.prog 40 #[v,.func (.func 41) #[] #[]] w fun e w'=>e = .returned (.bool b) ∧ Below w.heap.size w w':=by
 obtain ⟨A,c,rfl⟩:=Kd.S_slice hS
 obtain ⟨k1,k2⟩:=impl_IsPlan.top_any k rows rows 0 b (fun j _=>by unfold Go.Proofs.YtlefjgpkabijdaaGreatDoorH.rdRow;rw [Nat.zero_add,Int.toNat_natCast]) h
 rw [← k2]
 have hR:=(Kd.S_reads' hS).2.2
 refine Go.Proofs.YtlefjgpkabijdaaGreatDoorH.contains_f57 w A rows.length c (impl_IsPlan.elOf w A) (impl_IsPlan.pv k rows) 41 #[] (enters_of Tryz.func41 (by kernel_rfl) rfl) (Kd.C_max hR) (fun hp=>?_) (fun j hj W hW=>?_)
 ·obtain ⟨ad,_,_,e,_⟩:=Go.Proofs.YtlefjgpkabijdaaGreatDoorH.at_row hR 0 (by omega) (by omega)
  subst e
  refine ⟨ad,rfl,fun j hj=>?_⟩
  obtain ⟨ad',A',c',e',h',_⟩:=Go.Proofs.YtlefjgpkabijdaaGreatDoorH.at_row hR (j : Int) (by omega) (by omega)
  obtain rfl : ad = ad':=by injection e'
  rw [Int.toNat_natCast] at h'
  rw [impl_IsPlan.elOf_some h']
  exact h'
 ·obtain ⟨ad',A',c',e',h',hl',hC⟩:=Go.Proofs.YtlefjgpkabijdaaGreatDoorH.at_row hR (j : Int) (by omega) (by omega)
  subst e'
  rw [Int.toNat_natCast] at h'
  obtain ⟨m,hm⟩:=k1 j hj
  rw [Nat.zero_add] at hm
  rw [impl_IsPlan.elOf_some h']
  have hp : impl_IsPlan.pv k rows j = decide (m > 1000000):=by unfold impl_IsPlan.pv;rw [hm]
  rw [hp]
  exact impl_IsPlan.row_calls k A' c' (Go.Proofs.YtlefjgpkabijdaaGreatDoorH.rdRow rows j) m W (Kd.C_below hC hW) hl' hm
def impl_IsPlan.f (k : Nat) (n : Int) (ss : List S41) (os : List Int) : Option Bool:=if impl_IsPlan.formed n ss os = true then ((impl_Plan_exponents.f k n ss os).bind fun t=>(impl_IsPlan.top k t).bind fun b=>some (!b)) else some false
theorem impl_IsPlan.mono : ∀ n ss os k,LeO (impl_IsPlan.f k n ss os) (impl_IsPlan.f (k + 1) n ss os):=by
 intro n ss os k
 unfold impl_IsPlan.f
 exact LeO.ite (LeO.bind (impl_Plan_exponents.mono _ _ _ _) (fun _=>LeO.bind (impl_IsPlan.top_mono _ _) (fun _=>LeO.refl _))) (LeO.refl _)
set_option maxHeartbeats 2000000 in
set_option maxRecDepth 100000 in
theorem impl_IsPlan.calls (k : Nat) (a0_0 : Int) (A0_1 : Option Addr) (c0_1 : Nat) (l0_1 : List S41) (A0_2 : Option Addr) (c0_2 : Nat) (l0_2 : List Int) (r : Bool) (w : World) (hr0_1 : Kd.C k41 w A0_1 l0_1.length l0_1) (hc0_1 : l0_1.length ≤ c0_1) (hr0_2 : Kd.C (Kd.int .i64) w A0_2 l0_2.length l0_2) (hc0_2 : l0_2.length ≤ c0_2) (h : impl_IsPlan.f k a0_0 l0_1 l0_2 = some r) :
  Calls Tryz.prog 24 #[.agg #[.int .i64 a0_0,.slice A0_1 l0_1.length c0_1,.slice A0_2 l0_2.length c0_2]] w fun e w'=>e = .returned (.bool r) ∧ Below w.heap.size w w':=by
 unfold impl_IsPlan.f at h
 by_cases cf : impl_IsPlan.formed a0_0 l0_1 l0_2 = true
 ·rw [if_pos cf] at h
  obtain ⟨rows,he,h⟩:=Option.bind_eq_some_iff.mp h
  obtain ⟨b,ht,h⟩:=Option.bind_eq_some_iff.mp h
  obtain rfl:=Option.some.inj h
  have HE:=Aside0.mk he
  have HT:=Aside0.mk ht
  have HN:=Aside0.mk (show ∀ W g,impl_IsPlan.IsP w W g a0_0 l0_1 l0_2 → Below w.heap.size w W → Calls Tryz.prog 39 #[.pointer (some ⟨g,0,none⟩)] W fun e w'=>e = .returned (.bool true) ∧ Below W.heap.size W w' from fun W g h1 h2=>by have:=impl_IsPlan.formed_calls g a0_0 l0_1 l0_2 w W h1 h2;rwa [cf] at this)
  have HR1:=Aside0.mk hr0_1
  have HR2:=Aside0.mk hr0_2
  clear h he ht cf hr0_1 hr0_2
  go_enter Tryz.func24,Tryz.ntmps24
  go_wp2_with (first|((with_reducible refine gate_dst (N:=1) rfl ?_);refine box_event ?hg (N:=1) ?hd (cs:=#[.int .i64 a0_0,.slice A0_1 l0_1.length c0_1,.slice A0_2 l0_2.length c0_2]) (t:=28) ?hr ?_;(case hd=>rfl);(case hg=>rfl);(case hr=>first|(go_simp;done)|(go_simp;rfl));intro gb hg w4 hbox hb;have HI:=Aside0.mk (show impl_IsPlan.IsP w w4 gb a0_0 l0_1 l0_2 from ⟨A0_1,c0_1,A0_2,c0_2,hbox,(by rw [hg];exact Nat.le_refl _),HR1.out,HR2.out⟩);have HB:=Aside0.mk hb;have HBX:=Aside0.mk hbox;clear hb hbox hg)|(go_at_call 39;refine (HN.out _ gb HI.out HB.out).mono ?_;rintro e w5 ⟨rfl,hb5⟩;have HBX5:=Aside0.mk ((hb5.block gb (blk_lt HBX.out)).trans HBX.out);have HB5:=Aside0.mk (HB.out.trans (hb5.mono HB.out.size));clear hb5)|(go_at_call 27;refine (impl_Plan_exponents.calls k gb a0_0 A0_1 c0_1 l0_1 A0_2 c0_2 l0_2 rows _ HBX5.out (Kd.C_below HR1.out HB5.out) hc0_1 (Kd.C_below HR2.out HB5.out) hc0_2 HE.out).mono ?_;rintro e w6 ⟨v,rfl,hS,hB6⟩;have HS:=Aside0.mk hS;have HB6:=Aside0.mk (HB5.out.trans (hB6.mono HB5.out.size));clear hS hB6)|(go_at_call 40;refine (impl_IsPlan.some_calls k rows b _ _ _ _ HS.out HT.out).mono ?_;rintro e w7 ⟨rfl,hb7⟩;have HB7:=Aside0.mk (HB6.out.trans (hb7.mono HB6.out.size));clear hb7))
  go_ret
  exact ⟨rfl,HB7.out⟩
 ·rw [if_neg cf] at h
  obtain rfl:=Option.some.inj h
  replace cf:=Bool.eq_false_iff.mpr cf
  have HN:=Aside0.mk (show ∀ W g,impl_IsPlan.IsP w W g a0_0 l0_1 l0_2 → Below w.heap.size w W → Calls Tryz.prog 39 #[.pointer (some ⟨g,0,none⟩)] W fun e w'=>e = .returned (.bool false) ∧ Below W.heap.size W w' from fun W g h1 h2=>by have:=impl_IsPlan.formed_calls g a0_0 l0_1 l0_2 w W h1 h2;rwa [cf] at this)
  have HR1:=Aside0.mk hr0_1
  have HR2:=Aside0.mk hr0_2
  clear h cf hr0_1 hr0_2
  go_enter Tryz.func24,Tryz.ntmps24
  go_wp2_with (first|((with_reducible refine gate_dst (N:=1) rfl ?_);refine box_event ?hg (N:=1) ?hd (cs:=#[.int .i64 a0_0,.slice A0_1 l0_1.length c0_1,.slice A0_2 l0_2.length c0_2]) (t:=28) ?hr ?_;(case hd=>rfl);(case hg=>rfl);(case hr=>first|(go_simp;done)|(go_simp;rfl));intro gb hg w4 hbox hb;have HI:=Aside0.mk (show impl_IsPlan.IsP w w4 gb a0_0 l0_1 l0_2 from ⟨A0_1,c0_1,A0_2,c0_2,hbox,(by rw [hg];exact Nat.le_refl _),HR1.out,HR2.out⟩);have HB:=Aside0.mk hb;have HBX:=Aside0.mk hbox;clear hb hbox hg)|(go_at_call 39;refine (HN.out _ gb HI.out HB.out).mono ?_;rintro e w5 ⟨rfl,hb5⟩;have HBX5:=Aside0.mk ((hb5.block gb (blk_lt HBX.out)).trans HBX.out);have HB5:=Aside0.mk (HB.out.trans (hb5.mono HB.out.size));clear hb5))
  go_ret
  exact ⟨rfl,HB5.out⟩
/-! ### impl_told: function 18 -/
def impl_told.f (k : Nat) (a0_0 : Int) (l0_1 : List (S41)) (l0_2 : List Int) : Option (Int × (List (S41)) × List Int × Bool):=(impl_IsPlan.f k a0_0 l0_1 l0_2).bind fun t266=>(if t266 = true then (some (a0_0,l0_1,l0_2,true)) else (some (0,([] : List (S41)),([] : List Int),false)))
theorem impl_told.mono : ∀ a0 a1 a2 k,LeO (impl_told.f k a0 a1 a2) (impl_told.f (k + 1) a0 a1 a2):=by
 intro a0 a1 a2 k
 unfold impl_told.f
 repeat' first
   | (with_reducible exact impl_IsPlan.mono _ _ _ _)
   | (with_reducible exact LeO.refl _)
   | (with_reducible exact LeO.none _)
   | (with_reducible refine LeO.ite ?_ ?_)
   | (with_reducible refine LeO.bind ?_ (fun _=>?_))
   | exact impl_IsPlan.mono _ _ _ _
   | exact LeO.none _
   | refine LeO.ite ?_ ?_
   | refine LeO.bind ?_ (fun _=>?_)
set_option maxHeartbeats 8000000 in
set_option maxRecDepth 100000 in
theorem impl_told.calls (k : Nat) (a0_0 : Int) (P0_1_ : Nat → Prop) (u9000_ : Value) (l0_1 : List (S41)) (P0_2_ : Nat → Prop) (u9001_ : Value) (l0_2 : List Int) (r1 : Int) (r2 : List (S41)) (r3 : List Int) (r4 : Bool) (w0 w : World) (hB : Below w0.heap.size w0 w) (ho0_1 : Kd.R k41 41 w w0.heap.size P0_1_ u9000_ l0_1) (ho0_2 : Kd.R (Kd.int .i64) 3 w w0.heap.size P0_2_ u9001_ l0_2) (h : impl_told.f k a0_0 l0_1 l0_2 = some (r1,r2,r3,r4)) :
  Calls Tryz.prog 18 #[.agg #[.int .i64 a0_0,u9000_,u9001_]] w fun e w'=>∃ v1_ v2_ : Value,e = .returned (.tuple #[.agg #[.int .i64 r1,v1_,v2_],.bool r4]) ∧ Kd.R k41 41 w' w0.heap.size (fun k_=>((P0_1_ k_ ∨ P0_2_ k_) ∨ w.heap.size ≤ k_)) v1_ r2 ∧ Kd.R (Kd.int .i64) 3 w' w0.heap.size (fun k_=>((P0_1_ k_ ∨ P0_2_ k_) ∨ w.heap.size ≤ k_)) v2_ r3 ∧ Below w0.heap.size w0 w' ∧ Kept w w' (fun k_=>P0_1_ k_ ∨ P0_2_ k_):=by
 have hu28:=Tryz.underlying28
 have HO0_1:=Aside0.mk (show Kd.R k41 41 w w0.heap.size (fun k_=>((P0_1_ k_ ∨ P0_2_ k_) ∨ w.heap.size ≤ k_)) u9000_ l0_1 from Kd.R_mono ho0_1 (fun k_ hk=>(.inl (.inl hk))))
 have HO0_2:=Aside0.mk (show Kd.R (Kd.int .i64) 3 w w0.heap.size (fun k_=>((P0_1_ k_ ∨ P0_2_ k_) ∨ w.heap.size ≤ k_)) u9001_ l0_2 from Kd.R_mono ho0_2 (fun k_ hk=>(.inl (.inr hk))))
 have HK:=Aside0.mk (Kept.refl w (fun k_=>P0_1_ k_ ∨ P0_2_ k_))
 have HW0:=Aside0.mk hB.size
 have HB:=Aside0.mk hB
 clear hB
 have H : ((impl_IsPlan.f k a0_0 l0_1 l0_2).bind fun t266=>(if t266 = true then (some (a0_0,l0_1,l0_2,true)) else (some (0,([] : List (S41)),([] : List Int),false)))) = some (r1,r2,r3,r4):=h
 clear h
 obtain ⟨t266,A2,H⟩:=bd H
 by_cases c3 : t266 = true
 ·subst c3
  rw [if_pos rfl] at H
  simp only [Option.some.injEq,Prod.mk.injEq] at H
  obtain ⟨rfl,rfl,rfl,rfl⟩:=H
  obtain ⟨Ao4,co4,eo4⟩:=Kd.R_slice HO0_1.out
  subst eo4
  obtain ⟨Ao5,co5,eo5⟩:=Kd.R_slice HO0_2.out
  subst eo5
  go_enter Tryz.func18,Tryz.ntmps18
  go_wp2_with (first|((with_reducible refine gate_dst (N:=1) rfl ?_);refine box_event ?hg (N:=1) ?hd (cs:=#[.int .i64 a0_0,.slice Ao4 l0_1.length co4,.slice Ao5 l0_2.length co5]) (t:=28) ?hr ?_;(case hd=>rfl);(case hg=>rfl);(case hr=>first|(go_simp;done)|(go_simp;rfl));intro gb264 hg w6 hbox hb;have n0_:=Aside0.mk (Kd.R_below (rz HO0_1.out) hb);have n1_:=Aside0.mk (Kd.R_below (rz HO0_2.out) hb);have n2_:=Aside0.mk (Kept.below (S:=(fun k_=>P0_1_ k_ ∨ P0_2_ k_)) (by repeat (first|(with_reducible first|exact HK.out|apply Kept.alloc|apply Kept.drewN|apply Kept.drew)|exact HK.out)) hb);have n3_:=Aside0.mk (below_step bz hb);have n4_:=Aside0.mk (hbox);have n5_:=Aside0.mk ((by rw [hg];exact (by first|exact HK.out.1|exact (show Kept w _ (fun k_=>P0_1_ k_ ∨ P0_2_ k_) from by repeat (first|(with_reducible first|exact HK.out|apply Kept.alloc|apply Kept.drewN|apply Kept.drew)|exact HK.out)).1) : w.heap.size ≤ gb264));have n6_:=Aside0.mk ((by rw [hg];exact (below_size bz) : w0.heap.size ≤ gb264));clear HO0_1 HO0_2 HK HB;have HO0_1:=n0_;have HO0_2:=n1_;have HK:=n2_;have HB:=n3_;have BK264:=n4_;have GW264:=n5_;have GE264:=n6_;clear n0_ n1_ n2_ n3_ n4_ n5_ n6_;clear hb hbox hg)|((with_reducible refine gate_dst (N:=2) rfl ?_);refine box_event ?hg (N:=2) ?hd (cs:=#[.int .i64 0,.slice none 0 0,.slice none 0 0]) (t:=28) ?hr ?_;(case hd=>rfl);(case hg=>rfl);(case hr=>first|(go_simp;done)|(go_simp;rfl));intro gb265 hg w7 hbox hb;have n0_:=Aside0.mk (Kd.R_below (rz HO0_1.out) hb);have n1_:=Aside0.mk (Kd.R_below (rz HO0_2.out) hb);have n2_:=Aside0.mk (kb BK264.out hb);have n3_:=Aside0.mk (Kept.below (S:=(fun k_=>P0_1_ k_ ∨ P0_2_ k_)) (by repeat (first|(with_reducible first|exact HK.out|apply Kept.alloc|apply Kept.drewN|apply Kept.drew|refine Kept.setCell ?_ (.inr GW264.out) _)|exact HK.out)) hb);have n4_:=Aside0.mk (below_step bs hb);have n5_:=Aside0.mk (hbox);have n6_:=Aside0.mk ((by rw [hg];exact (by first|exact HK.out.1|exact (show Kept w _ (fun k_=>P0_1_ k_ ∨ P0_2_ k_) from by repeat (first|(with_reducible first|exact HK.out|apply Kept.alloc|apply Kept.drewN|apply Kept.drew|refine Kept.setCell ?_ (.inr GW264.out) _)|exact HK.out)).1) : w.heap.size ≤ gb265));have n7_:=Aside0.mk ((by rw [hg];exact (below_size bs) : w0.heap.size ≤ gb265));have n8_:=Aside0.mk (kn hg BK264.out);have n9_:=Aside0.mk (km hg BK264.out);clear HO0_1 HO0_2 BK264 HK HB;have HO0_1:=n0_;have HO0_2:=n1_;have BK264:=n2_;have HK:=n3_;have HB:=n4_;have BK265:=n5_;have GW265:=n6_;have GE265:=n7_;have NB264_265:=n8_;have NB265_264:=n9_;clear n0_ n1_ n2_ n3_ n4_ n5_ n6_ n7_ n8_ n9_;clear hb hbox hg;have hnb8:=NB264_265.out;have hnc8:=NB265_264.out;have hcz9_0 : w7.cell? ⟨gb264,0,none⟩ = some (.int .i64 a0_0):=(blk_cell BK264.out 0).trans rfl;have hcz9_1 : w7.cell? ⟨gb264,1,none⟩ = some (.slice Ao4 l0_1.length co4):=(blk_cell BK264.out 1).trans rfl;have hcz9_2 : w7.cell? ⟨gb264,2,none⟩ = some (.slice Ao5 l0_2.length co5):=(blk_cell BK264.out 2).trans rfl;have hfz9_0:=blk_frozen BK264.out 0;have hfz9_1:=blk_frozen BK264.out 1;have hfz9_2:=blk_frozen BK264.out 2)|((with_reducible refine gate_callee (f:=24) rfl ?_);refine goesL_ (some 5) rfl rfl Tryz.func24 (by kernel_rfl) rfl #[.agg #[.int .i64 a0_0,.slice Ao4 l0_1.length co4,.slice Ao5 l0_2.length co5]] rfl mz ?_;(with_reducible refine (impl_IsPlan.calls k a0_0 _ _ l0_1 _ _ l0_2 true _ ?side1 ?side2 ?side3 ?side4 A2.out).mono ?_);(case side1=>exact cz (Kd.R_reads' HO0_1.out).2.2);(case side2=>exact (Kd.R_reads' HO0_1.out).2.1);(case side3=>exact cz (Kd.R_reads' HO0_2.out).2.2);(case side4=>exact (Kd.R_reads' HO0_2.out).2.1);rintro e w10 ⟨rfl,hb⟩;refine ⟨_,rfl,?_⟩;have n0_:=Aside0.mk (Kd.R_below (rz HO0_1.out) hb);have n1_:=Aside0.mk (Kd.R_below (rz HO0_2.out) hb);have n2_:=Aside0.mk (kb BK264.out hb);have n3_:=Aside0.mk (kb BK265.out hb);have n4_:=Aside0.mk (Kept.below (S:=(fun k_=>P0_1_ k_ ∨ P0_2_ k_)) (by repeat (first|(with_reducible first|exact HK.out|apply Kept.alloc|apply Kept.drewN|apply Kept.drew|refine Kept.setCell ?_ (.inr GW264.out) _|refine Kept.setCell ?_ (.inr GW265.out) _)|exact HK.out)) hb);have n5_:=Aside0.mk (below_step bs hb);clear HO0_1 HO0_2 BK264 BK265 HK HB;have HO0_1:=n0_;have HO0_2:=n1_;have BK264:=n2_;have BK265:=n3_;have HK:=n4_;have HB:=n5_;clear n0_ n1_ n2_ n3_ n4_ n5_;(try clear hb);have hcz11_0 : w10.cell? ⟨gb264,0,none⟩ = some (.int .i64 a0_0):=(blk_cell BK264.out 0).trans rfl;have hcz11_1 : w10.cell? ⟨gb264,1,none⟩ = some (.slice Ao4 l0_1.length co4):=(blk_cell BK264.out 1).trans rfl;have hcz11_2 : w10.cell? ⟨gb264,2,none⟩ = some (.slice Ao5 l0_2.length co5):=(blk_cell BK264.out 2).trans rfl;have hfz11_0:=blk_frozen BK264.out 0;have hfz11_1:=blk_frozen BK264.out 1;have hfz11_2:=blk_frozen BK264.out 2;have hcz12_0 : w10.cell? ⟨gb265,0,none⟩ = some (.int .i64 0):=(blk_cell BK265.out 0).trans rfl;have hcz12_1 : w10.cell? ⟨gb265,1,none⟩ = some (.slice none 0 0):=(blk_cell BK265.out 1).trans rfl;have hcz12_2 : w10.cell? ⟨gb265,2,none⟩ = some (.slice none 0 0):=(blk_cell BK265.out 2).trans rfl;have hfz12_0:=blk_frozen BK265.out 0;have hfz12_1:=blk_frozen BK265.out 1;have hfz12_2:=blk_frozen BK265.out 2))
  refine bodyPost_ret (results_ct rfl _ _ gb265 28 #[.int .i64 a0_0,.slice Ao4 l0_1.length co4,.slice Ao5 l0_2.length co5] (0,0) _ rfl (by (with_reducible repeat (first|refine blk_drewN ?_ _|refine blk_drew ?_|refine blk_alloc ?_ _));refine blk_put (cs:=#[.int .i64 a0_0,.slice Ao4 l0_1.length co4,.slice none 0 0]) ?_ 2 _ rfl;(with_reducible repeat (first|refine blk_drewN ?_ _|refine blk_drew ?_|refine blk_alloc ?_ _));refine blk_put (cs:=#[.int .i64 a0_0,.slice none 0 0,.slice none 0 0]) ?_ 1 _ rfl;(with_reducible repeat (first|refine blk_drewN ?_ _|refine blk_drew ?_|refine blk_alloc ?_ _));refine blk_put (cs:=#[.int .i64 0,.slice none 0 0,.slice none 0 0]) ?_ 0 _ rfl;(with_reducible repeat (first|refine blk_drewN ?_ _|refine blk_drew ?_|refine blk_alloc ?_ _));exact BK265.out) Tryz.underlying28 rfl (by kernel_rfl)) rfl ?_
  exact ⟨_,_,by first|rfl|(simp [errW_none,errW_some] <;> rfl)|(simp [*,errW_none,errW_some] <;> rfl),by (with_reducible repeat (first|apply Kd.R_alloc|apply Kd.R_drewN|apply Kd.R_drew));exact Kd.R_mono (Kd.R_far (p:=⟨gb265,2,none⟩) (Kd.R_far (p:=⟨gb265,1,none⟩) (Kd.R_far (p:=⟨gb265,0,none⟩) (Kd.R_types HO0_1.out BK265.out (by decide)) (fun _ hk=>hk.2) (.int .i64 a0_0)) (fun _ hk=>hk.2) (.slice Ao4 l0_1.length co4)) (fun _ hk=>hk.2) (.slice Ao5 l0_2.length co5)) (fun _ hk=>hk.1),by (with_reducible repeat (first|apply Kd.R_alloc|apply Kd.R_drewN|apply Kd.R_drew));exact Kd.R_mono (Kd.R_far (p:=⟨gb265,2,none⟩) (Kd.R_far (p:=⟨gb265,1,none⟩) (Kd.R_far (p:=⟨gb265,0,none⟩) (Kd.R_types HO0_2.out BK265.out (by decide)) (fun _ hk=>hk.2) (.int .i64 a0_0)) (fun _ hk=>hk.2) (.slice Ao4 l0_1.length co4)) (fun _ hk=>hk.2) (.slice Ao5 l0_2.length co5)) (fun _ hk=>hk.1),by repeat (first|(with_reducible first|exact HB.out|apply below_alloc|apply pw_below_drewN|apply below_drew1|refine below_set ?_ GE264.out|refine below_set ?_ GE265.out)|exact HB.out),by repeat (first|(with_reducible first|exact HK.out|apply Kept.alloc|apply Kept.drewN|apply Kept.drew|refine Kept.setCell ?_ (.inr GW264.out) _|refine Kept.setCell ?_ (.inr GW265.out) _)|exact HK.out)⟩
 ·replace c3:=Bool.eq_false_iff.mpr c3
  subst c3
  rw [if_neg (show ¬ (false = true) by decide)] at H
  simp only [Option.some.injEq,Prod.mk.injEq] at H
  obtain ⟨rfl,rfl,rfl,rfl⟩:=H
  obtain ⟨Ao13,co13,eo13⟩:=Kd.R_slice HO0_1.out
  subst eo13
  obtain ⟨Ao14,co14,eo14⟩:=Kd.R_slice HO0_2.out
  subst eo14
  go_enter Tryz.func18,Tryz.ntmps18
  go_wp2_with (first|((with_reducible refine gate_dst (N:=1) rfl ?_);refine box_event ?hg (N:=1) ?hd (cs:=#[.int .i64 a0_0,.slice Ao13 l0_1.length co13,.slice Ao14 l0_2.length co14]) (t:=28) ?hr ?_;(case hd=>rfl);(case hg=>rfl);(case hr=>first|(go_simp;done)|(go_simp;rfl));intro gb264 hg w15 hbox hb;have n0_:=Aside0.mk (Kd.R_below (rz HO0_1.out) hb);have n1_:=Aside0.mk (Kd.R_below (rz HO0_2.out) hb);have n2_:=Aside0.mk (Kept.below (S:=(fun k_=>P0_1_ k_ ∨ P0_2_ k_)) (by repeat (first|(with_reducible first|exact HK.out|apply Kept.alloc|apply Kept.drewN|apply Kept.drew)|exact HK.out)) hb);have n3_:=Aside0.mk (below_step bz hb);have n4_:=Aside0.mk (hbox);have n5_:=Aside0.mk ((by rw [hg];exact (by first|exact HK.out.1|exact (show Kept w _ (fun k_=>P0_1_ k_ ∨ P0_2_ k_) from by repeat (first|(with_reducible first|exact HK.out|apply Kept.alloc|apply Kept.drewN|apply Kept.drew)|exact HK.out)).1) : w.heap.size ≤ gb264));have n6_:=Aside0.mk ((by rw [hg];exact (below_size bz) : w0.heap.size ≤ gb264));clear HO0_1 HO0_2 HK HB;have HO0_1:=n0_;have HO0_2:=n1_;have HK:=n2_;have HB:=n3_;have BK264:=n4_;have GW264:=n5_;have GE264:=n6_;clear n0_ n1_ n2_ n3_ n4_ n5_ n6_;clear hb hbox hg)|((with_reducible refine gate_dst (N:=2) rfl ?_);refine box_event ?hg (N:=2) ?hd (cs:=#[.int .i64 0,.slice none 0 0,.slice none 0 0]) (t:=28) ?hr ?_;(case hd=>rfl);(case hg=>rfl);(case hr=>first|(go_simp;done)|(go_simp;rfl));intro gb265 hg w16 hbox hb;have n0_:=Aside0.mk (Kd.R_below (rz HO0_1.out) hb);have n1_:=Aside0.mk (Kd.R_below (rz HO0_2.out) hb);have n2_:=Aside0.mk (kb BK264.out hb);have n3_:=Aside0.mk (Kept.below (S:=(fun k_=>P0_1_ k_ ∨ P0_2_ k_)) (by repeat (first|(with_reducible first|exact HK.out|apply Kept.alloc|apply Kept.drewN|apply Kept.drew|refine Kept.setCell ?_ (.inr GW264.out) _)|exact HK.out)) hb);have n4_:=Aside0.mk (below_step bs hb);have n5_:=Aside0.mk (hbox);have n6_:=Aside0.mk ((by rw [hg];exact (by first|exact HK.out.1|exact (show Kept w _ (fun k_=>P0_1_ k_ ∨ P0_2_ k_) from by repeat (first|(with_reducible first|exact HK.out|apply Kept.alloc|apply Kept.drewN|apply Kept.drew|refine Kept.setCell ?_ (.inr GW264.out) _)|exact HK.out)).1) : w.heap.size ≤ gb265));have n7_:=Aside0.mk ((by rw [hg];exact (below_size bs) : w0.heap.size ≤ gb265));have n8_:=Aside0.mk (kn hg BK264.out);have n9_:=Aside0.mk (km hg BK264.out);clear HO0_1 HO0_2 BK264 HK HB;have HO0_1:=n0_;have HO0_2:=n1_;have BK264:=n2_;have HK:=n3_;have HB:=n4_;have BK265:=n5_;have GW265:=n6_;have GE265:=n7_;have NB264_265:=n8_;have NB265_264:=n9_;clear n0_ n1_ n2_ n3_ n4_ n5_ n6_ n7_ n8_ n9_;clear hb hbox hg;have hnb17:=NB264_265.out;have hnc17:=NB265_264.out;have hcz18_0 : w16.cell? ⟨gb264,0,none⟩ = some (.int .i64 a0_0):=(blk_cell BK264.out 0).trans rfl;have hcz18_1 : w16.cell? ⟨gb264,1,none⟩ = some (.slice Ao13 l0_1.length co13):=(blk_cell BK264.out 1).trans rfl;have hcz18_2 : w16.cell? ⟨gb264,2,none⟩ = some (.slice Ao14 l0_2.length co14):=(blk_cell BK264.out 2).trans rfl;have hfz18_0:=blk_frozen BK264.out 0;have hfz18_1:=blk_frozen BK264.out 1;have hfz18_2:=blk_frozen BK264.out 2)|((with_reducible refine gate_callee (f:=24) rfl ?_);refine goesL_ (some 5) rfl rfl Tryz.func24 (by kernel_rfl) rfl #[.agg #[.int .i64 a0_0,.slice Ao13 l0_1.length co13,.slice Ao14 l0_2.length co14]] rfl mz ?_;(with_reducible refine (impl_IsPlan.calls k a0_0 _ _ l0_1 _ _ l0_2 false _ ?side1 ?side2 ?side3 ?side4 A2.out).mono ?_);(case side1=>exact cz (Kd.R_reads' HO0_1.out).2.2);(case side2=>exact (Kd.R_reads' HO0_1.out).2.1);(case side3=>exact cz (Kd.R_reads' HO0_2.out).2.2);(case side4=>exact (Kd.R_reads' HO0_2.out).2.1);rintro e w19 ⟨rfl,hb⟩;refine ⟨_,rfl,?_⟩;have n0_:=Aside0.mk (Kd.R_below (rz HO0_1.out) hb);have n1_:=Aside0.mk (Kd.R_below (rz HO0_2.out) hb);have n2_:=Aside0.mk (kb BK264.out hb);have n3_:=Aside0.mk (kb BK265.out hb);have n4_:=Aside0.mk (Kept.below (S:=(fun k_=>P0_1_ k_ ∨ P0_2_ k_)) (by repeat (first|(with_reducible first|exact HK.out|apply Kept.alloc|apply Kept.drewN|apply Kept.drew|refine Kept.setCell ?_ (.inr GW264.out) _|refine Kept.setCell ?_ (.inr GW265.out) _)|exact HK.out)) hb);have n5_:=Aside0.mk (below_step bs hb);clear HO0_1 HO0_2 BK264 BK265 HK HB;have HO0_1:=n0_;have HO0_2:=n1_;have BK264:=n2_;have BK265:=n3_;have HK:=n4_;have HB:=n5_;clear n0_ n1_ n2_ n3_ n4_ n5_;(try clear hb);have hcz20_0 : w19.cell? ⟨gb265,0,none⟩ = some (.int .i64 0):=(blk_cell BK265.out 0).trans rfl;have hcz20_1 : w19.cell? ⟨gb265,1,none⟩ = some (.slice none 0 0):=(blk_cell BK265.out 1).trans rfl;have hcz20_2 : w19.cell? ⟨gb265,2,none⟩ = some (.slice none 0 0):=(blk_cell BK265.out 2).trans rfl;have hfz20_0:=blk_frozen BK265.out 0;have hfz20_1:=blk_frozen BK265.out 1;have hfz20_2:=blk_frozen BK265.out 2))
  refine bodyPost_ret (results_ct rfl _ _ gb265 28 #[.int .i64 0,.slice none 0 0,.slice none 0 0] (0,0) _ rfl (by (with_reducible repeat (first|refine blk_drewN ?_ _|refine blk_drew ?_|refine blk_alloc ?_ _));refine blk_put (cs:=#[.int .i64 0,.slice none 0 0,.slice none 0 0]) ?_ 2 _ rfl;(with_reducible repeat (first|refine blk_drewN ?_ _|refine blk_drew ?_|refine blk_alloc ?_ _));refine blk_put (cs:=#[.int .i64 0,.slice none 0 0,.slice none 0 0]) ?_ 1 _ rfl;(with_reducible repeat (first|refine blk_drewN ?_ _|refine blk_drew ?_|refine blk_alloc ?_ _));refine blk_put (cs:=#[.int .i64 0,.slice none 0 0,.slice none 0 0]) ?_ 0 _ rfl;(with_reducible repeat (first|refine blk_drewN ?_ _|refine blk_drew ?_|refine blk_alloc ?_ _));exact BK265.out) Tryz.underlying28 rfl (by kernel_rfl)) rfl ?_
  exact ⟨_,_,by first|rfl|(simp [errW_none,errW_some] <;> rfl)|(simp [*,errW_none,errW_some] <;> rfl),by first|exact Kd.R_nil _ _ _ _ _|exact Kd.N_nil _ _ _ _ _|exact Kd.V_nil _ _ _ _ _|exact Kd.Q_nil _ _ _ _ _|exact Kd.S_nil _ _ _ _ _,by first|exact Kd.R_nil _ _ _ _ _|exact Kd.N_nil _ _ _ _ _|exact Kd.V_nil _ _ _ _ _|exact Kd.Q_nil _ _ _ _ _|exact Kd.S_nil _ _ _ _ _,by repeat (first|(with_reducible first|exact HB.out|apply below_alloc|apply pw_below_drewN|apply below_drew1|refine below_set ?_ GE264.out|refine below_set ?_ GE265.out)|exact HB.out),by repeat (first|(with_reducible first|exact HK.out|apply Kept.alloc|apply Kept.drewN|apply Kept.drew|refine Kept.setCell ?_ (.inr GW264.out) _|refine Kept.setCell ?_ (.inr GW265.out) _)|exact HK.out)⟩
/-! ### impl_chainSteps: function 28 -/
def impl_chainSteps.l0 : Nat → List Int → List (S41) → Int → Option ((List (S41)))
 | 0,_,_,_=>none
 | k + 1,x0,x3,x4=>if x4 < (x0.length : Int) then ((impl_sums.f k x0 x4).bind fun t270=>(if 0 ≤ (wrap64 ((t270.length : Int) - 1)) then (if (wrap64 ((t270.length : Int) - 1)) < (t270.length : Int) then (if x3.length < 8796093022208 then (impl_chainSteps.l0 k x0 (x3 ++ [(⟨(rd_T41 t270 (wrap64 ((t270.length : Int) - 1))).f0,(rd_T41 t270 (wrap64 ((t270.length : Int) - 1))).f1⟩ : S41)]) (wrap64 (x4 + 1))) else (none)) else (none)) else (none))) else (some x3)
def impl_chainSteps.f (k : Nat) (l0 : List Int) : Option ((List (S41))):=impl_chainSteps.l0 k l0 (([] : List (S41))) 1
theorem impl_chainSteps.mono_l : ∀ k,(∀ y0 y1 y2,LeO (impl_chainSteps.l0 k y0 y1 y2) (impl_chainSteps.l0 (k + 1) y0 y1 y2))
 | 0=>fun _ _ _ r h=>by simp [impl_chainSteps.l0] at h
 | k + 1=>by
  have ih0:=impl_chainSteps.mono_l k
  ·intro y0 y1 y2
   unfold impl_chainSteps.l0
   repeat' first
   | (with_reducible exact ih0 _ _ _)
   | (with_reducible exact impl_sums.mono _ _ _)
   | (with_reducible exact LeO.refl _)
   | (with_reducible exact LeO.none _)
   | (with_reducible refine LeO.ite ?_ ?_)
   | (with_reducible refine LeO.bind ?_ (fun _=>?_))
   | exact ih0 _ _ _
   | exact impl_sums.mono _ _ _
   | exact LeO.none _
   | refine LeO.ite ?_ ?_
   | refine LeO.bind ?_ (fun _=>?_)
theorem impl_chainSteps.mono : ∀ a0 k,LeO (impl_chainSteps.f k a0) (impl_chainSteps.f (k + 1) a0):=by
 intro a0 k
 have ih0:=impl_chainSteps.mono_l k
 unfold impl_chainSteps.f
 repeat' first
   | (with_reducible exact ih0 _ _ _)
   | (with_reducible exact impl_sums.mono _ _ _)
   | (with_reducible exact LeO.refl _)
   | (with_reducible exact LeO.none _)
   | (with_reducible refine LeO.ite ?_ ?_)
   | (with_reducible refine LeO.bind ?_ (fun _=>?_))
   | exact ih0 _ _ _
   | exact impl_sums.mono _ _ _
   | exact LeO.none _
   | refine LeO.ite ?_ ?_
   | refine LeO.bind ?_ (fun _=>?_)
set_option maxHeartbeats 8000000 in
set_option maxRecDepth 100000 in
theorem impl_chainSteps.calls (k : Nat) (A0 : Option Addr) (c0 : Nat) (l0 : List Int) (r : List (S41)) (w : World) (hr0 : Kd.C (Kd.int .i64) w A0 l0.length l0) (hc0 : l0.length ≤ c0) (h : impl_chainSteps.f k l0 = some r) :
  Calls Tryz.prog 28 #[.slice A0 l0.length c0] w fun e w'=>∃ v0_ : Value,e = .returned (v0_) ∧ Kd.R k41 41 w' w.heap.size (fun _=>True) v0_ r ∧ Below w.heap.size w w':=by
 have hu41:=Tryz.underlying41
 have HR0:=Aside0.mk hr0
 have HC0:=Aside0.mk hc0
 clear hr0 hc0
 have HB:=Aside0.mk (Below.refl w.heap.size w)
 have H : (impl_chainSteps.l0 k l0 (([] : List (S41))) 1) = some r:=h
 clear h
 obtain ⟨y267,hy267⟩ : ∃ y_ : List (S41),y_ = (([] : List (S41))):=⟨_,rfl⟩
 replace H : (impl_chainSteps.l0 k l0 y267 1) = some r:=by first|(rw [hy267];with_reducible exact H)|(have H2_:=(Option.bind_some _ _).symm.trans H;rw [hy267];with_reducible exact H2_)|(have H2_:=(Option.bind_some _ _).symm.trans H;with_reducible exact H2_)|with_reducible exact H|(rw [hy267];exact H)|exact H
 have Ny267:=Aside0.mk hy267
 clear hy267
 have H':=Aside0.mk H
 clear H
 go_enter Tryz.func28,Tryz.ntmps28
 go_wp2_with (first|((with_reducible refine gate_dst (N:=6) rfl ?_);refine Kd.R_lit k41 _ 41 ?hg (N:=6) ?hd (xs:=([] : List (S41))) (inner:=[]) (ok:=fun _=>True) (okp:=fun _=>True) ?hr ?hp (fun _ hk=>hk) trivial (Below.refl _ _) (Nat.le_refl _) (by simp) ?_;(case hd=>rfl);(case hg=>rfl);(case hr=>first|(go_simp;done)|(go_simp;rfl));(case hp=>exact (Reps.none _ _));intro v268 w2 ho3 hb hg_ hnew_;clear hg_ hnew_;(first|rw [← Ny267.out] at ho3|(simp only [Int.reduceToNat] at ho3;rw [← Ny267.out] at ho3));have n0_:=Aside0.mk (Kd.R_lower ho3 (below_size bz));have n1_:=Aside0.mk (below_step bz hb);clear HB;have HO269:=n0_;have HB:=n1_;clear n0_ n1_;clear hb ho3))
 go_loopg [3,4] k (fun kq v3 v4 w'=>∃ (x3_1 : List (S41)) (x4_1 : Int),v4 = .int .i64 x4_1 ∧ Aside0 (impl_chainSteps.l0 kq l0 x3_1 x4_1 = some r) ∧ Aside0 (kq ≤ k) ∧ Aside0 (Kd.R k41 41 w' w.heap.size (fun _=>True) v3 x3_1) ∧ Aside0 (Below w.heap.size w w'))
 case atStart=>exact ⟨(y267),(1),fz,H',⟨Nat.le_refl _⟩,⟨by (with_reducible repeat (first|apply Kd.R_alloc|apply Kd.R_drewN|apply Kd.R_drew));exact HO269.out⟩,⟨by repeat (first|(with_reducible first|exact HB.out|apply below_alloc|apply pw_below_drewN|apply below_drew1)|exact HB.out)⟩⟩
 case round=>
  clear H'
  try clear c2
  try clear p2
  obtain ⟨x3_1,x4_1,rfl,HA,HK1,HO_3,HB⟩:=hrel
  cases gk with
  | zero=>exact absurd HA.out (by simp [impl_chainSteps.l0])
  | succ k1=>
   have H:=HA.out
   clear HA
   simp only [impl_chainSteps.l0] at H
   by_cases c4 : x4_1 < (l0.length : Int)
   ·rw [if_pos c4] at H
    have c4b0 : decide (x4_1 < (l0.length : Int)) = true:=decide_eq_true c4
    clear c4
    obtain ⟨t270,A5,H⟩:=bd H
    obtain ⟨ji6,hji6⟩ : ∃ j_ : Int,(wrap64 ((t270.length : Int) - 1)) = j_:=⟨_,rfl⟩
    replace H : (if 0 ≤ (ji6) then (if (ji6) < (t270.length : Int) then (if x3_1.length < 8796093022208 then (impl_chainSteps.l0 k1 l0 (x3_1 ++ [(⟨(rd_T41 t270 (ji6)).f0,(rd_T41 t270 (ji6)).f1⟩ : S41)]) (wrap64 (x4_1 + 1))) else (none)) else (none)) else (none)) = some r:=by first|(rw [hji6] at H;exact H)|(simp only [hji6] at H ⊢;exact H)
    (try rw [hji6] at A5)
    have hji6w : (IntKind.i64.wrap ((t270.length : Int) - 1)) = ji6:=(i64_w _).trans hji6
    by_cases c7 : 0 ≤ (ji6)
    ·rw [if_pos c7] at H
     have c7b0 : decide (0 ≤ (ji6)) = true:=decide_eq_true c7
     clear c7
     by_cases c8 : (ji6) < (t270.length : Int)
     ·rw [if_pos c8] at H
      have c8b0 : decide ((ji6) < (t270.length : Int)) = true:=decide_eq_true c8
      clear c8
      by_cases c9 : x3_1.length < 8796093022208
      ·rw [if_pos c9] at H
       have LMc9:=Aside0.mk c9
       clear c9
       obtain ⟨y274,hy274⟩ : ∃ y_ : List (S41),y_ = (x3_1 ++ [(⟨(rd_T41 t270 (ji6)).f0,(rd_T41 t270 (ji6)).f1⟩ : S41)]):=⟨_,rfl⟩
       replace H : (impl_chainSteps.l0 k1 l0 y274 (wrap64 (x4_1 + 1))) = some r:=by first|(rw [hy274];with_reducible exact H)|(have H2_:=(Option.bind_some _ _).symm.trans H;rw [hy274];with_reducible exact H2_)|(have H2_:=(Option.bind_some _ _).symm.trans H;with_reducible exact H2_)|with_reducible exact H|(rw [hy274];exact H)|exact H
       have Ny274:=Aside0.mk hy274
       clear hy274
       have H':=Aside0.mk H
       clear H
       go_wp2_with (first|((with_reducible refine gate_callee (f:=23) rfl ?_);refine goesL_ (some 15) rfl rfl Tryz.func23 (by kernel_rfl) rfl #[.slice A0 l0.length c0,.int .i64 x4_1] rfl mz ?_;(with_reducible refine (impl_sums.calls k1 _ _ l0 x4_1 t270 _ ?side1 ?side2 A5.out).mono ?_);(case side1=>exact cz (Kd.C_below HR0.out HB.out));(case side2=>exact HC0.out);rintro e w10 ⟨v271,rfl,ho0,hb⟩;refine ⟨_,rfl,?_⟩;have n0_:=Aside0.mk (Kd.R_elder' (rz HO_3.out) (Kd.R_base ho0) hb);have n1_:=Aside0.mk (Kd.R_lower (Kd.R_new' ho0 (Kd.R_lt (rz HO_3.out))) (below_size bz));have n2_:=Aside0.mk (below_step bz hb);clear HO_3 HB;have HO_3:=n0_;have HO272:=n1_;have HB:=n2_;clear n0_ n1_ n2_;(try clear hb);(try clear ho0);obtain ⟨Ao11,co11,eo11⟩:=Kd.R_slice HO272.out;subst eo11;have p273 : 0 ≤ ((ji6) : Int):=of_decide_eq_true az;have q273 : (ji6) < (t270.length : Int):=of_decide_eq_true az;obtain ⟨ad273,e273,hx273_0,hx273_1⟩:=at_T41 (Kd.R_reads' HO272.out).2.2 (ji6) p273 q273;cases e273;replace p273:=eq_true p273;replace q273:=eq_true q273)|((with_reducible refine gate_builtin (b:=.append) (xs:=#[.tmp 16,.tmp 23]) rfl ?_);at_builtin;refine Kd.R_append k41 (w0:=w) w.heap.size rfl (.tmp 16) (.tmp 23) 26 41 (.agg #[(.int .i64 0),(.int .i64 0)]) 16 rfl Tryz.underlying26 info41 rfl (by decide) (by omega) u3 x3_1 (⟨(rd_T41 t270 (ji6)).f0,(rd_T41 t270 (ji6)).f1⟩ : S41) [.int .i64 ((rd_T41 t270 (ji6)).f0),.int .i64 ((rd_T41 t270 (ji6)).f1)] (fun k_=>some k_ ≠ (.slice (some ad273) t270.length co11 : Value).ownBlock) (fun _=>False) rfl rfl ?aP (fun _ hk=>hk.elim) ?aF ?aO ?aB ?aS ?aL ?_;(case aP=>exact k41_mkM _ _ _ (⟨(rd_T41 t270 (ji6)).f0,(rd_T41 t270 (ji6)).f1⟩ : S41));(case aB=>exact bz);(case aF=>exact (fun k_ hk=>Kd.fresh' (Kd.R_lt (rz HO272.out)) k_ hk));(case aO=>exact (by (with_reducible repeat (first|apply Kd.R_alloc|apply Kd.R_drewN|apply Kd.R_drew));exact Kd.R_mono HO_3.out (fun _ hk=>hk.2)));(case aS=>exact (below_size bz));(case aL=>have:=LMc9.out;omega);intro v275 w12 ho hb hg hat;rw [← Ny274.out] at ho;have n0_:=Aside0.mk (Kd.R_after (ok:=(fun _=>True)) (rz HO272.out) hg hat);have n1_:=Aside0.mk (hb);have n2_:=Aside0.mk (ho);clear HO272 HB HO_3;have HO272:=n0_;have HB:=n1_;have HO276:=n2_;clear n0_ n1_ n2_;clear ho hb hg hat))
       go_roundg k1
       case measure=>have:=HK1.out;omega
       case rel=>exact ⟨(y274),(wrap64 (x4_1 + 1)),fz,H',⟨by have:=HK1.out;omega⟩,⟨by (with_reducible repeat (first|apply Kd.R_alloc|apply Kd.R_drewN|apply Kd.R_drew));exact Kd.R_mono HO276.out (fun _ hk=>trivial)⟩,⟨by repeat (first|(with_reducible first|exact HB.out|apply below_alloc|apply pw_below_drewN|apply below_drew1)|exact HB.out)⟩⟩
      ·rw [if_neg c9] at H
       exact absurd H (by simp)
     ·rw [if_neg c8] at H
      exact absurd H (by simp)
    ·rw [if_neg c7] at H
     exact absurd H (by simp)
   ·rw [if_neg c4] at H
    have c4b0 : decide (x4_1 < (l0.length : Int)) = false:=decide_eq_false c4
    clear c4
    obtain rfl:=Option.some.inj H
    go_wp2
    go_ret
    exact ⟨_,by first|rfl|(simp [errW_none,errW_some] <;> rfl)|(simp [*,errW_none,errW_some] <;> rfl),by (with_reducible repeat (first|apply Kd.R_alloc|apply Kd.R_drewN|apply Kd.R_drew));exact HO_3.out,by repeat (first|(with_reducible first|exact HB.out|apply below_alloc|apply pw_below_drewN|apply below_drew1)|exact HB.out)⟩
/-! ### impl_chainPlan: function 19 -/
def impl_chainPlan.f (k : Nat) (l0 : List Int) : Option (Int × (List (S41)) × List Int):=(impl_chainSteps.f k l0).bind fun t278=>(some (1,t278,(([wrap64 ((l0.length : Int) - 1)] : List Int))))
theorem impl_chainPlan.mono : ∀ a0 k,LeO (impl_chainPlan.f k a0) (impl_chainPlan.f (k + 1) a0):=by
 intro a0 k
 unfold impl_chainPlan.f
 repeat' first
   | (with_reducible exact impl_chainSteps.mono _ _)
   | (with_reducible exact LeO.refl _)
   | (with_reducible exact LeO.none _)
   | (with_reducible refine LeO.ite ?_ ?_)
   | (with_reducible refine LeO.bind ?_ (fun _=>?_))
   | exact impl_chainSteps.mono _ _
   | exact LeO.none _
   | refine LeO.ite ?_ ?_
   | refine LeO.bind ?_ (fun _=>?_)
set_option maxHeartbeats 8000000 in
set_option maxRecDepth 100000 in
theorem impl_chainPlan.calls (k : Nat) (A0 : Option Addr) (c0 : Nat) (l0 : List Int) (r1 : Int) (r2 : List (S41)) (r3 : List Int) (w : World) (hr0 : Kd.C (Kd.int .i64) w A0 l0.length l0) (hc0 : l0.length ≤ c0) (h : impl_chainPlan.f k l0 = some (r1,r2,r3)) :
  Calls Tryz.prog 19 #[.slice A0 l0.length c0] w fun e w'=>∃ v1_ v2_ : Value,e = .returned (.agg #[.int .i64 r1,v1_,v2_]) ∧ Kd.R k41 41 w' w.heap.size (fun _=>True) v1_ r2 ∧ Kd.R (Kd.int .i64) 3 w' w.heap.size (fun _=>True) v2_ r3 ∧ Below w.heap.size w w':=by
 have hu28:=Tryz.underlying28
 have HR0:=Aside0.mk hr0
 have HC0:=Aside0.mk hc0
 clear hr0 hc0
 have HB:=Aside0.mk (Below.refl w.heap.size w)
 have H : ((impl_chainSteps.f k l0).bind fun t278=>(some (1,t278,(([wrap64 ((l0.length : Int) - 1)] : List Int))))) = some (r1,r2,r3):=h
 clear h
 obtain ⟨t278,A2,H⟩:=bd H
 obtain ⟨y281,hy281⟩ : ∃ y_ : List Int,y_ = (([wrap64 ((l0.length : Int) - 1)] : List Int)):=⟨_,rfl⟩
 replace H : (some (1,t278,y281)) = some (r1,r2,r3):=by first|(rw [hy281];with_reducible exact H)|(have H2_:=(Option.bind_some _ _).symm.trans H;rw [hy281];with_reducible exact H2_)|(have H2_:=(Option.bind_some _ _).symm.trans H;with_reducible exact H2_)|with_reducible exact H|(rw [hy281];exact H)|exact H
 have Ny281:=Aside0.mk hy281
 clear hy281
 simp only [Option.some.injEq,Prod.mk.injEq] at H
 obtain ⟨rfl,rfl,rfl⟩:=H
 go_enter Tryz.func19,Tryz.ntmps19
 go_wp2_with (first|((with_reducible refine gate_dst (N:=2) rfl ?_);refine box_event ?hg (N:=2) ?hd (cs:=#[.int .i64 0,.slice none 0 0,.slice none 0 0]) (t:=28) ?hr ?_;(case hd=>rfl);(case hg=>rfl);(case hr=>first|(go_simp;done)|(go_simp;rfl));intro gb277 hg w3 hbox hb;have n0_:=Aside0.mk (below_step bz hb);have n1_:=Aside0.mk (hbox);have n2_:=Aside0.mk ((by rw [hg];exact (below_size bz) : w.heap.size ≤ gb277));have n3_:=Aside0.mk ((by rw [hg];exact (below_size bz) : w.heap.size ≤ gb277));clear HB;have HB:=n0_;have BK277:=n1_;have GW277:=n2_;have GE277:=n3_;clear n0_ n1_ n2_ n3_;clear hb hbox hg)|((with_reducible refine gate_callee (f:=28) rfl ?_);refine goesL_ (some 4) rfl rfl Tryz.func28 (by kernel_rfl) rfl #[.slice A0 l0.length c0] rfl mz ?_;(with_reducible refine (impl_chainSteps.calls k _ _ l0 t278 _ ?side1 ?side2 A2.out).mono ?_);(case side1=>exact cz (Kd.C_below HR0.out HB.out));(case side2=>exact HC0.out);rintro e w4 ⟨v279,rfl,ho0,hb⟩;refine ⟨_,rfl,?_⟩;have n0_:=Aside0.mk (Kd.R_lower ho0 (below_size bs));have n1_:=Aside0.mk (kb BK277.out hb);have n2_:=Aside0.mk (below_step bs hb);clear BK277 HB;have HO280:=n0_;have BK277:=n1_;have HB:=n2_;clear n0_ n1_ n2_;(try clear hb);(try clear ho0))|((with_reducible refine gate_dst (N:=8) rfl ?_);refine Kd.R_lit (Kd.int .i64) _ 3 ?hg (N:=8) ?hd (xs:=([wrap64 ((l0.length : Int) - 1)] : List Int)) (inner:=[.int .i64 (wrap64 ((l0.length : Int) - 1))]) (ok:=fun _=>True) (okp:=fun _=>True) ?hr ?hp (fun _ hk=>hk) trivial (Below.refl _ _) (Nat.le_refl _) (by simp) ?_;(case hd=>rfl);(case hg=>rfl);(case hr=>first|(go_simp;done)|(go_simp;rfl));(case hp=>exact (Reps.one (show Kd.M (Kd.int .i64) _ _ _ (wrap64 ((l0.length : Int) - 1)) [.int .i64 (wrap64 ((l0.length : Int) - 1))] from rfl) (Reps.none _ _)));intro v282 w5 ho6 hb hg_ hnew_;clear hg_ hnew_;(first|rw [← Ny281.out] at ho6|(simp only [Int.reduceToNat] at ho6;rw [← Ny281.out] at ho6));have n0_:=Aside0.mk (Kd.R_below (rz HO280.out) hb);have n1_:=Aside0.mk (Kd.R_lower ho6 (below_size bs));have n2_:=Aside0.mk (kb BK277.out hb);have n3_:=Aside0.mk (below_step bs hb);clear HO280 BK277 HB;have HO280:=n0_;have HO283:=n1_;have BK277:=n2_;have HB:=n3_;clear n0_ n1_ n2_ n3_;clear hb ho6;obtain ⟨Ao7,co7,eo7⟩:=Kd.R_slice HO283.out;subst eo7;obtain ⟨Ao8,co8,eo8⟩:=Kd.R_slice HO280.out;subst eo8;have hcz9_0 : w5.cell? ⟨gb277,0,none⟩ = some (.int .i64 0):=(blk_cell BK277.out 0).trans rfl;have hcz9_1 : w5.cell? ⟨gb277,1,none⟩ = some (.slice none 0 0):=(blk_cell BK277.out 1).trans rfl;have hcz9_2 : w5.cell? ⟨gb277,2,none⟩ = some (.slice none 0 0):=(blk_cell BK277.out 2).trans rfl;have hfz9_0:=blk_frozen BK277.out 0;have hfz9_1:=blk_frozen BK277.out 1;have hfz9_2:=blk_frozen BK277.out 2))
 refine bodyPost_ret (results_cell_row rfl _ _ gb277 28 #[.int .i64 1,.slice Ao8 t278.length co8,.slice Ao7 y281.length co7] (0,0) _ rfl (by (with_reducible repeat (first|refine blk_drewN ?_ _|refine blk_drew ?_|refine blk_alloc ?_ _));refine blk_put (cs:=#[.int .i64 1,.slice Ao8 t278.length co8,.slice none 0 0]) ?_ 2 _ rfl;(with_reducible repeat (first|refine blk_drewN ?_ _|refine blk_drew ?_|refine blk_alloc ?_ _));refine blk_put (cs:=#[.int .i64 1,.slice none 0 0,.slice none 0 0]) ?_ 1 _ rfl;(with_reducible repeat (first|refine blk_drewN ?_ _|refine blk_drew ?_|refine blk_alloc ?_ _));refine blk_put (cs:=#[.int .i64 0,.slice none 0 0,.slice none 0 0]) ?_ 0 _ rfl;(with_reducible repeat (first|refine blk_drewN ?_ _|refine blk_drew ?_|refine blk_alloc ?_ _));exact BK277.out) Tryz.underlying28 rfl (by kernel_rfl)) rfl ?_
 exact ⟨_,_,by first|rfl|(simp [errW_none,errW_some] <;> rfl)|(simp [*,errW_none,errW_some] <;> rfl),by (with_reducible repeat (first|apply Kd.R_alloc|apply Kd.R_drewN|apply Kd.R_drew));exact Kd.R_mono (Kd.R_far (p:=⟨gb277,2,none⟩) (Kd.R_far (p:=⟨gb277,1,none⟩) (Kd.R_far (p:=⟨gb277,0,none⟩) (Kd.R_types HO280.out BK277.out (by decide)) (fun _ hk=>hk.2) (.int .i64 1)) (fun _ hk=>hk.2) (.slice Ao8 t278.length co8)) (fun _ hk=>hk.2) (.slice Ao7 y281.length co7)) (fun _ hk=>trivial),by (with_reducible repeat (first|apply Kd.R_alloc|apply Kd.R_drewN|apply Kd.R_drew));exact Kd.R_mono (Kd.R_far (p:=⟨gb277,2,none⟩) (Kd.R_far (p:=⟨gb277,1,none⟩) (Kd.R_far (p:=⟨gb277,0,none⟩) (Kd.R_types HO283.out BK277.out (by decide)) (fun _ hk=>hk.2) (.int .i64 1)) (fun _ hk=>hk.2) (.slice Ao8 t278.length co8)) (fun _ hk=>hk.2) (.slice Ao7 y281.length co7)) (fun _ hk=>trivial),by repeat (first|(with_reducible first|exact HB.out|apply below_alloc|apply pw_below_drewN|apply below_drew1|refine below_set ?_ GE277.out)|exact HB.out)⟩
/-! ### impl_ChainPlan: function 6 -/
def impl_ChainPlan.f (k : Nat) (l0 : List Int) : Option (Int × (List (S41)) × List Int × Bool):=(impl_IsChain.f k l0).bind fun t285=>(if t285 = true then ((impl_chainPlan.f k l0).bind fun bt286=>((impl_told.f k bt286.1 bt286.2.1 bt286.2.2).bind fun bt293=>(some (bt293.1,bt293.2.1,bt293.2.2.1,bt293.2.2.2)))) else (some (0,([] : List (S41)),([] : List Int),false)))
theorem impl_ChainPlan.mono : ∀ a0 k,LeO (impl_ChainPlan.f k a0) (impl_ChainPlan.f (k + 1) a0):=by
 intro a0 k
 unfold impl_ChainPlan.f
 repeat' first
   | (with_reducible exact impl_IsChain.mono _ _)
   | (with_reducible exact impl_chainPlan.mono _ _)
   | (with_reducible exact impl_told.mono _ _ _ _)
   | (with_reducible exact LeO.refl _)
   | (with_reducible exact LeO.none _)
   | (with_reducible refine LeO.ite ?_ ?_)
   | (with_reducible refine LeO.bind ?_ (fun _=>?_))
   | exact impl_IsChain.mono _ _
   | exact impl_chainPlan.mono _ _
   | exact impl_told.mono _ _ _ _
   | exact LeO.none _
   | refine LeO.ite ?_ ?_
   | refine LeO.bind ?_ (fun _=>?_)
set_option maxHeartbeats 8000000 in
set_option maxRecDepth 100000 in
theorem impl_ChainPlan.calls (k : Nat) (A0 : Option Addr) (c0 : Nat) (l0 : List Int) (r1 : Int) (r2 : List (S41)) (r3 : List Int) (r4 : Bool) (w : World) (hr0 : Kd.C (Kd.int .i64) w A0 l0.length l0) (hc0 : l0.length ≤ c0) (h : impl_ChainPlan.f k l0 = some (r1,r2,r3,r4)) :
  Calls Tryz.prog 6 #[.slice A0 l0.length c0] w fun e w'=>∃ v1_ v2_ : Value,e = .returned (.tuple #[.agg #[.int .i64 r1,v1_,v2_],.bool r4]) ∧ Kd.R k41 41 w' w.heap.size (fun _=>True) v1_ r2 ∧ Kd.R (Kd.int .i64) 3 w' w.heap.size (fun _=>True) v2_ r3 ∧ Below w.heap.size w w':=by
 have hu28:=Tryz.underlying28
 have HR0:=Aside0.mk hr0
 have HC0:=Aside0.mk hc0
 clear hr0 hc0
 have HB:=Aside0.mk (Below.refl w.heap.size w)
 have H : ((impl_IsChain.f k l0).bind fun t285=>(if t285 = true then ((impl_chainPlan.f k l0).bind fun bt286=>((impl_told.f k bt286.1 bt286.2.1 bt286.2.2).bind fun bt293=>(some (bt293.1,bt293.2.1,bt293.2.2.1,bt293.2.2.2)))) else (some (0,([] : List (S41)),([] : List Int),false)))) = some (r1,r2,r3,r4):=h
 clear h
 obtain ⟨t285,A2,H⟩:=bd H
 by_cases c3 : t285 = true
 ·subst c3
  rw [if_pos rfl] at H
  obtain ⟨⟨t286,t287,t290⟩,A4,H⟩:=bd H
  try dsimp only at H
  obtain ⟨⟨t293,t294,t297,t300⟩,A5,H⟩:=bd H
  try dsimp only at H
  simp only [Option.some.injEq,Prod.mk.injEq] at H
  obtain ⟨rfl,rfl,rfl,rfl⟩:=H
  go_enter Tryz.func6,Tryz.ntmps6
  go_wp2_with (first|((with_reducible refine gate_dst (N:=2) rfl ?_);refine box_event ?hg (N:=2) ?hd (cs:=#[.int .i64 0,.slice none 0 0,.slice none 0 0]) (t:=28) ?hr ?_;(case hd=>rfl);(case hg=>rfl);(case hr=>first|(go_simp;done)|(go_simp;rfl));intro gb284 hg w6 hbox hb;have n0_:=Aside0.mk (below_step bz hb);have n1_:=Aside0.mk (hbox);have n2_:=Aside0.mk ((by rw [hg];exact (below_size bz) : w.heap.size ≤ gb284));have n3_:=Aside0.mk ((by rw [hg];exact (below_size bz) : w.heap.size ≤ gb284));clear HB;have HB:=n0_;have BK284:=n1_;have GW284:=n2_;have GE284:=n3_;clear n0_ n1_ n2_ n3_;clear hb hbox hg)|((with_reducible refine gate_callee (f:=9) rfl ?_);refine goesL_ (some 5) rfl rfl Tryz.func9 (by kernel_rfl) rfl #[.slice A0 l0.length c0] rfl mz ?_;(with_reducible refine (impl_IsChain.calls k _ _ l0 true _ ?side1 ?side2 A2.out).mono ?_);(case side1=>exact cz (Kd.C_below HR0.out HB.out));(case side2=>exact HC0.out);rintro e w7 ⟨rfl,hb⟩;refine ⟨_,rfl,?_⟩;have n0_:=Aside0.mk (kb BK284.out hb);have n1_:=Aside0.mk (below_step bs hb);clear BK284 HB;have BK284:=n0_;have HB:=n1_;clear n0_ n1_;(try clear hb))|((with_reducible refine gate_callee (f:=19) rfl ?_);refine goesL_ (some 9) rfl rfl Tryz.func19 (by kernel_rfl) rfl #[.slice A0 l0.length c0] rfl mz ?_;(with_reducible refine (impl_chainPlan.calls k _ _ l0 t286 t287 t290 _ ?side1 ?side2 A4.out).mono ?_);(case side1=>exact cz (Kd.C_below HR0.out HB.out));(case side2=>exact HC0.out);rintro e w8 ⟨v288,v291,rfl,ho0,ho1,hb⟩;refine ⟨_,rfl,?_⟩;have n0_:=Aside0.mk (Kd.R_lower ho0 (below_size bs));have n1_:=Aside0.mk (Kd.R_lower ho1 (below_size bs));have n2_:=Aside0.mk (kb BK284.out hb);have n3_:=Aside0.mk (below_step bs hb);clear BK284 HB;have HO289:=n0_;have HO292:=n1_;have BK284:=n2_;have HB:=n3_;clear n0_ n1_ n2_ n3_;(try clear hb);(try clear ho0);(try clear ho1);obtain ⟨Ao9,co9,eo9⟩:=Kd.R_slice HO289.out;subst eo9;obtain ⟨Ao10,co10,eo10⟩:=Kd.R_slice HO292.out;subst eo10)|((with_reducible refine gate_callee (f:=18) rfl ?_);refine goesL_ (some 10) rfl rfl Tryz.func18 (by kernel_rfl) rfl #[.agg #[.int .i64 t286,.slice Ao9 t287.length co9,.slice Ao10 t290.length co10]] rfl mz ?_;(with_reducible refine (impl_told.calls k t286 (fun k_=>some k_ = (.slice Ao9 t287.length co9 : Value).ownBlock) (.slice Ao9 t287.length co9) t287 (fun k_=>some k_ = (.slice Ao10 t290.length co10 : Value).ownBlock) (.slice Ao10 t290.length co10) t290 t293 t294 t297 t300 w _ ?side1 ?side2 ?side3 A5.out).mono ?_);(case side1=>repeat (first|(with_reducible first|exact HB.out|apply below_alloc|apply pw_below_drewN|apply below_drew1|refine below_set ?_ GE284.out)|exact HB.out));(case side2=>exact Kd.R_tight rfl HO289.out);(case side3=>exact Kd.R_tight rfl HO292.out);rintro e w11 ⟨v295,v298,rfl,ho0,ho1,hb,hkp⟩;refine ⟨_,rfl,?_⟩;have n0_:=Aside0.mk (blk_kept (kz BK284.out) hkp (fun hs_=>Or.elim hs_ (fun e_=>(fun e_=>(Kd.R_ne HO289.out BK284.out (by decide)) e_) e_) (fun e_=>(fun e_=>(Kd.R_ne HO292.out BK284.out (by decide)) e_) e_)));have n1_:=Aside0.mk (Kd.R_mono (ok':=fun k_=>True) ho0 (fun k_ hk_=>trivial));have n2_:=Aside0.mk (Kd.R_mono (ok':=fun k_=>True) ho1 (fun k_ hk_=>trivial));have n3_:=Aside0.mk (hb);clear BK284 HB HO289 HO292;have BK284:=n0_;have HO296:=n1_;have HO299:=n2_;have HB:=n3_;clear n0_ n1_ n2_ n3_;(try clear hb);(try clear hkp);(try clear ho0);(try clear ho1);have hcz12_0 : w11.cell? ⟨gb284,0,none⟩ = some (.int .i64 0):=(blk_cell BK284.out 0).trans rfl;have hcz12_1 : w11.cell? ⟨gb284,1,none⟩ = some (.slice none 0 0):=(blk_cell BK284.out 1).trans rfl;have hcz12_2 : w11.cell? ⟨gb284,2,none⟩ = some (.slice none 0 0):=(blk_cell BK284.out 2).trans rfl;have hfz12_0:=blk_frozen BK284.out 0;have hfz12_1:=blk_frozen BK284.out 1;have hfz12_2:=blk_frozen BK284.out 2;obtain ⟨Ao13,co13,eo13⟩:=Kd.R_slice HO296.out;subst eo13;obtain ⟨Ao14,co14,eo14⟩:=Kd.R_slice HO299.out;subst eo14))
  refine bodyPost_ret (results_ct rfl _ _ gb284 28 #[.int .i64 t293,.slice Ao13 t294.length co13,.slice Ao14 t297.length co14] (0,0) _ rfl (by (with_reducible repeat (first|refine blk_drewN ?_ _|refine blk_drew ?_|refine blk_alloc ?_ _));refine blk_put (cs:=#[.int .i64 t293,.slice Ao13 t294.length co13,.slice none 0 0]) ?_ 2 _ rfl;(with_reducible repeat (first|refine blk_drewN ?_ _|refine blk_drew ?_|refine blk_alloc ?_ _));refine blk_put (cs:=#[.int .i64 t293,.slice none 0 0,.slice none 0 0]) ?_ 1 _ rfl;(with_reducible repeat (first|refine blk_drewN ?_ _|refine blk_drew ?_|refine blk_alloc ?_ _));refine blk_put (cs:=#[.int .i64 0,.slice none 0 0,.slice none 0 0]) ?_ 0 _ rfl;(with_reducible repeat (first|refine blk_drewN ?_ _|refine blk_drew ?_|refine blk_alloc ?_ _));exact BK284.out) Tryz.underlying28 rfl (by kernel_rfl)) rfl ?_
  exact ⟨_,_,by first|rfl|(simp [errW_none,errW_some] <;> rfl)|(simp [*,errW_none,errW_some] <;> rfl),by (with_reducible repeat (first|apply Kd.R_alloc|apply Kd.R_drewN|apply Kd.R_drew));exact Kd.R_mono (Kd.R_far (p:=⟨gb284,2,none⟩) (Kd.R_far (p:=⟨gb284,1,none⟩) (Kd.R_far (p:=⟨gb284,0,none⟩) (Kd.R_types HO296.out BK284.out (by decide)) (fun _ hk=>hk.2) (.int .i64 t293)) (fun _ hk=>hk.2) (.slice Ao13 t294.length co13)) (fun _ hk=>hk.2) (.slice Ao14 t297.length co14)) (fun _ hk=>trivial),by (with_reducible repeat (first|apply Kd.R_alloc|apply Kd.R_drewN|apply Kd.R_drew));exact Kd.R_mono (Kd.R_far (p:=⟨gb284,2,none⟩) (Kd.R_far (p:=⟨gb284,1,none⟩) (Kd.R_far (p:=⟨gb284,0,none⟩) (Kd.R_types HO299.out BK284.out (by decide)) (fun _ hk=>hk.2) (.int .i64 t293)) (fun _ hk=>hk.2) (.slice Ao13 t294.length co13)) (fun _ hk=>hk.2) (.slice Ao14 t297.length co14)) (fun _ hk=>trivial),by repeat (first|(with_reducible first|exact HB.out|apply below_alloc|apply pw_below_drewN|apply below_drew1|refine below_set ?_ GE284.out)|exact HB.out)⟩
 ·replace c3:=Bool.eq_false_iff.mpr c3
  subst c3
  rw [if_neg (show ¬ (false = true) by decide)] at H
  simp only [Option.some.injEq,Prod.mk.injEq] at H
  obtain ⟨rfl,rfl,rfl,rfl⟩:=H
  go_enter Tryz.func6,Tryz.ntmps6
  go_wp2_with (first|((with_reducible refine gate_dst (N:=2) rfl ?_);refine box_event ?hg (N:=2) ?hd (cs:=#[.int .i64 0,.slice none 0 0,.slice none 0 0]) (t:=28) ?hr ?_;(case hd=>rfl);(case hg=>rfl);(case hr=>first|(go_simp;done)|(go_simp;rfl));intro gb284 hg w15 hbox hb;have n0_:=Aside0.mk (below_step bz hb);have n1_:=Aside0.mk (hbox);have n2_:=Aside0.mk ((by rw [hg];exact (below_size bz) : w.heap.size ≤ gb284));have n3_:=Aside0.mk ((by rw [hg];exact (below_size bz) : w.heap.size ≤ gb284));clear HB;have HB:=n0_;have BK284:=n1_;have GW284:=n2_;have GE284:=n3_;clear n0_ n1_ n2_ n3_;clear hb hbox hg)|((with_reducible refine gate_callee (f:=9) rfl ?_);refine goesL_ (some 5) rfl rfl Tryz.func9 (by kernel_rfl) rfl #[.slice A0 l0.length c0] rfl mz ?_;(with_reducible refine (impl_IsChain.calls k _ _ l0 false _ ?side1 ?side2 A2.out).mono ?_);(case side1=>exact cz (Kd.C_below HR0.out HB.out));(case side2=>exact HC0.out);rintro e w16 ⟨rfl,hb⟩;refine ⟨_,rfl,?_⟩;have n0_:=Aside0.mk (kb BK284.out hb);have n1_:=Aside0.mk (below_step bs hb);clear BK284 HB;have BK284:=n0_;have HB:=n1_;clear n0_ n1_;(try clear hb);have hcz17_0 : w16.cell? ⟨gb284,0,none⟩ = some (.int .i64 0):=(blk_cell BK284.out 0).trans rfl;have hcz17_1 : w16.cell? ⟨gb284,1,none⟩ = some (.slice none 0 0):=(blk_cell BK284.out 1).trans rfl;have hcz17_2 : w16.cell? ⟨gb284,2,none⟩ = some (.slice none 0 0):=(blk_cell BK284.out 2).trans rfl;have hfz17_0:=blk_frozen BK284.out 0;have hfz17_1:=blk_frozen BK284.out 1;have hfz17_2:=blk_frozen BK284.out 2))
  refine bodyPost_ret (results_ct rfl _ _ gb284 28 #[.int .i64 0,.slice none 0 0,.slice none 0 0] (0,0) _ rfl (by (with_reducible repeat (first|refine blk_drewN ?_ _|refine blk_drew ?_|refine blk_alloc ?_ _));refine blk_put (cs:=#[.int .i64 0,.slice none 0 0,.slice none 0 0]) ?_ 2 _ rfl;(with_reducible repeat (first|refine blk_drewN ?_ _|refine blk_drew ?_|refine blk_alloc ?_ _));refine blk_put (cs:=#[.int .i64 0,.slice none 0 0,.slice none 0 0]) ?_ 1 _ rfl;(with_reducible repeat (first|refine blk_drewN ?_ _|refine blk_drew ?_|refine blk_alloc ?_ _));refine blk_put (cs:=#[.int .i64 0,.slice none 0 0,.slice none 0 0]) ?_ 0 _ rfl;(with_reducible repeat (first|refine blk_drewN ?_ _|refine blk_drew ?_|refine blk_alloc ?_ _));exact BK284.out) Tryz.underlying28 rfl (by kernel_rfl)) rfl ?_
  exact ⟨_,_,by first|rfl|(simp [errW_none,errW_some] <;> rfl)|(simp [*,errW_none,errW_some] <;> rfl),by first|exact Kd.R_nil _ _ _ _ _|exact Kd.N_nil _ _ _ _ _|exact Kd.V_nil _ _ _ _ _|exact Kd.Q_nil _ _ _ _ _|exact Kd.S_nil _ _ _ _ _,by first|exact Kd.R_nil _ _ _ _ _|exact Kd.N_nil _ _ _ _ _|exact Kd.V_nil _ _ _ _ _|exact Kd.Q_nil _ _ _ _ _|exact Kd.S_nil _ _ _ _ _,by repeat (first|(with_reducible first|exact HB.out|apply below_alloc|apply pw_below_drewN|apply below_drew1|refine below_set ?_ GE284.out)|exact HB.out)⟩
/-! ### spec_l1In: function 35 -/
def spec_l1In.f (a0 : Int) (a1 : Int) (a2 : Int) : Option (Bool):=if a0 ≥ a1 then (some (decide (a0 ≤ a2))) else (some false)
set_option maxHeartbeats 8000000 in
set_option maxRecDepth 100000 in
theorem spec_l1In.calls (a0 : Int) (a1 : Int) (a2 : Int) (r : Bool) (w : World) (h : spec_l1In.f a0 a1 a2 = some r) :
  Calls Tryz.prog 35 #[.int .i64 a0,.int .i64 a1,.int .i64 a2] w fun e w'=>e = .returned (.bool r) ∧ Drawn0 w w':=by
 have H : (if a0 ≥ a1 then (some (decide (a0 ≤ a2))) else (some false)) = some r:=h
 clear h
 by_cases c4 : a0 ≥ a1
 ·rw [if_pos c4] at H
  have c4b0 : decide (a1 ≤ a0) = true:=decide_eq_true c4
  clear c4
  obtain rfl:=Option.some.inj H
  go_enter Tryz.func35,Tryz.ntmps35
  go_wp2
  go_ret
  exact ⟨by first|rfl|(simp;done)|(simp [*];done),by repeat (first|exact Drawn0.refl _|apply Drawn0.step)⟩
 ·rw [if_neg c4] at H
  have c4b0 : decide (a1 ≤ a0) = false:=decide_eq_false c4
  clear c4
  obtain rfl:=Option.some.inj H
  go_enter Tryz.func35,Tryz.ntmps35
  go_wp2
  go_ret
  exact ⟨by first|rfl|(simp;done)|(simp [*];done),by repeat (first|exact Drawn0.refl _|apply Drawn0.step)⟩
/-! ### spec_l1Rising: function 36 -/
def spec_l1Rising.l0 : Nat → List Int → Int → Int → List Int → Int → Int → Option (Bool)
 | 0,_,_,_,_,_,_=>none
 | k + 1,x0,x1,x2,x9,x10,x11=>if x11 < x10 then (if 0 ≤ x11 then (if x11 < (x9.length : Int) then ((spec_l1In.f (rd x9 x11) x1 x2).bind fun t302=>(if t302 = true then (if x11 > 0 then (if 0 ≤ (wrap64 (x11 - 1)) then (if (wrap64 (x11 - 1)) < (x0.length : Int) then (if (rd x0 (wrap64 (x11 - 1))) ≥ (rd x9 x11) then (some false) else (spec_l1Rising.l0 k x0 x1 x2 x9 x10 (wrap64 (x11 + 1)))) else (none)) else (none)) else (spec_l1Rising.l0 k x0 x1 x2 x9 x10 (wrap64 (x11 + 1)))) else (some false))) else (none)) else (none)) else (some true)
def spec_l1Rising.f (k : Nat) (l0 : List Int) (a1 : Int) (a2 : Int) : Option (Bool):=spec_l1Rising.l0 k l0 a1 a2 l0 (l0.length : Int) 0
theorem spec_l1Rising.mono_l : ∀ k,(∀ y0 y1 y2 y3 y4 y5,LeO (spec_l1Rising.l0 k y0 y1 y2 y3 y4 y5) (spec_l1Rising.l0 (k + 1) y0 y1 y2 y3 y4 y5))
 | 0=>fun _ _ _ _ _ _ r h=>by simp [spec_l1Rising.l0] at h
 | k + 1=>by
  have ih0:=spec_l1Rising.mono_l k
  ·intro y0 y1 y2 y3 y4 y5
   unfold spec_l1Rising.l0
   repeat' first
   | (with_reducible exact ih0 _ _ _ _ _ _)
   | (with_reducible exact LeO.refl _)
   | (with_reducible exact LeO.none _)
   | (with_reducible refine LeO.ite ?_ ?_)
   | (with_reducible refine LeO.bind ?_ (fun _=>?_))
   | exact ih0 _ _ _ _ _ _
   | exact LeO.none _
   | refine LeO.ite ?_ ?_
   | refine LeO.bind ?_ (fun _=>?_)
theorem spec_l1Rising.mono : ∀ a0 a1 a2 k,LeO (spec_l1Rising.f k a0 a1 a2) (spec_l1Rising.f (k + 1) a0 a1 a2):=by
 intro a0 a1 a2 k
 have ih0:=spec_l1Rising.mono_l k
 unfold spec_l1Rising.f
 repeat' first
   | (with_reducible exact ih0 _ _ _ _ _ _)
   | (with_reducible exact LeO.refl _)
   | (with_reducible exact LeO.none _)
   | (with_reducible refine LeO.ite ?_ ?_)
   | (with_reducible refine LeO.bind ?_ (fun _=>?_))
   | exact ih0 _ _ _ _ _ _
   | exact LeO.none _
   | refine LeO.ite ?_ ?_
   | refine LeO.bind ?_ (fun _=>?_)
set_option maxHeartbeats 8000000 in
set_option maxRecDepth 100000 in
theorem spec_l1Rising.calls (k : Nat) (A0 : Option Addr) (c0 : Nat) (l0 : List Int) (a1 : Int) (a2 : Int) (r : Bool) (w : World) (hr0 : Kd.C (Kd.int .i64) w A0 l0.length l0) (hc0 : l0.length ≤ c0) (h : spec_l1Rising.f k l0 a1 a2 = some r) :
  Calls Tryz.prog 36 #[.slice A0 l0.length c0,.int .i64 a1,.int .i64 a2] w fun e w'=>e = .returned (.bool r) ∧ Drawn0 w w':=by
 have HR0:=Aside0.mk hr0
 have HC0:=Aside0.mk hc0
 clear hr0 hc0
 have H : (spec_l1Rising.l0 k l0 a1 a2 l0 (l0.length : Int) 0) = some r:=h
 clear h
 have H':=Aside0.mk H
 clear H
 go_enter Tryz.func36,Tryz.ntmps36
 go_wp2
 go_loopg [11] k (fun kq v11 w'=>∃ (x11_1 : Int),v11 = .int .i64 x11_1 ∧ Aside0 (spec_l1Rising.l0 kq l0 a1 a2 l0 (l0.length : Int) x11_1 = some r) ∧ Aside0 (kq ≤ k) ∧ Drawn0 w w')
 case atStart=>exact ⟨(0),fz,H',⟨Nat.le_refl _⟩,by repeat (first|exact Drawn0.refl _|apply Drawn0.step)⟩
 case round=>
  clear H'
  try clear p2
  try clear c3
  obtain ⟨x11_1,rfl,HA,HK1,⟨m1,rfl⟩⟩:=hrel
  cases gk with
  | zero=>exact absurd HA.out (by simp [spec_l1Rising.l0])
  | succ k1=>
   have H:=HA.out
   clear HA
   simp only [spec_l1Rising.l0] at H
   by_cases c4 : x11_1 < (l0.length : Int)
   ·rw [if_pos c4] at H
    have c4b0 : decide (x11_1 < (l0.length : Int)) = true:=decide_eq_true c4
    clear c4
    by_cases c5 : 0 ≤ x11_1
    ·rw [if_pos c5] at H
     have c5b0 : decide (0 ≤ x11_1) = true:=decide_eq_true c5
     clear c5
     by_cases c6 : x11_1 < (l0.length : Int)
     ·rw [if_pos c6] at H
      have c6b0 : decide (x11_1 < (l0.length : Int)) = true:=decide_eq_true c6
      clear c6
      obtain ⟨t302,A7,H⟩:=bd H
      by_cases c8 : t302 = true
      ·subst c8
       rw [if_pos rfl] at H
       by_cases c9 : x11_1 > 0
       ·rw [if_pos c9] at H
        have c9b0 : decide (0 < x11_1) = true:=decide_eq_true c9
        clear c9
        obtain ⟨ji10,hji10⟩ : ∃ j_ : Int,(wrap64 (x11_1 - 1)) = j_:=⟨_,rfl⟩
        replace H : (if 0 ≤ (ji10) then (if (ji10) < (l0.length : Int) then (if (rd l0 (ji10)) ≥ (rd l0 x11_1) then (some false) else (spec_l1Rising.l0 k1 l0 a1 a2 l0 (l0.length : Int) (wrap64 (x11_1 + 1)))) else (none)) else (none)) = some r:=by first|(rw [hji10] at H;exact H)|(simp only [hji10] at H ⊢;exact H)
        (try rw [hji10] at A7)
        have hji10w : (IntKind.i64.wrap (x11_1 - 1)) = ji10:=(i64_w _).trans hji10
        by_cases c11 : 0 ≤ (ji10)
        ·rw [if_pos c11] at H
         have c11b0 : decide (0 ≤ (ji10)) = true:=decide_eq_true c11
         clear c11
         by_cases c12 : (ji10) < (l0.length : Int)
         ·rw [if_pos c12] at H
          have c12b0 : decide ((ji10) < (l0.length : Int)) = true:=decide_eq_true c12
          clear c12
          by_cases c13 : (rd l0 (ji10)) ≥ (rd l0 x11_1)
          ·rw [if_pos c13] at H
           have c13b0 : decide ((rd l0 x11_1) ≤ (rd l0 (ji10))) = true:=decide_eq_true c13
           clear c13
           obtain rfl:=Option.some.inj H
           have p301 : 0 ≤ (x11_1 : Int):=of_decide_eq_true az
           have q301 : x11_1 < (l0.length : Int):=of_decide_eq_true az
           obtain ⟨ad301,e301,hx301_0⟩:=Kd.at_int HR0.out x11_1 p301 q301
           cases e301
           replace p301:=eq_true p301
           replace q301:=eq_true q301
           go_wp2_with (first|((with_reducible refine gate_callee (f:=35) rfl ?_);refine goesL_ (some 19) rfl rfl Tryz.func35 (by kernel_rfl) rfl #[.int .i64 (rd l0 x11_1),.int .i64 a1,.int .i64 a2] rfl mz ?_;(with_reducible refine (spec_l1In.calls (rd l0 x11_1) a1 a2 true _ A7.out).mono ?_);rintro e w' ⟨rfl,⟨nd,rfl⟩⟩;refine ⟨_,rfl,?_⟩;have p303 : 0 ≤ ((ji10) : Int):=of_decide_eq_true az;have q303 : (ji10) < (l0.length : Int):=of_decide_eq_true az;obtain ⟨ad303,e303,hx303_0⟩:=Kd.at_int HR0.out (ji10) p303 q303;obtain rfl : ad301 = ad303:=(by injection e303);replace p303:=eq_true p303;replace q303:=eq_true q303))
           go_ret
           exact ⟨by first|rfl|(simp;done)|(simp only [← hji10] <;> (first|rfl|simp))|(simp [*];done),by repeat (first|exact Drawn0.refl _|apply Drawn0.step)⟩
          ·rw [if_neg c13] at H
           have c13b0 : decide ((rd l0 x11_1) ≤ (rd l0 (ji10))) = false:=decide_eq_false c13
           clear c13
           have H':=Aside0.mk H
           clear H
           have p301 : 0 ≤ (x11_1 : Int):=of_decide_eq_true az
           have q301 : x11_1 < (l0.length : Int):=of_decide_eq_true az
           obtain ⟨ad301,e301,hx301_0⟩:=Kd.at_int HR0.out x11_1 p301 q301
           cases e301
           replace p301:=eq_true p301
           replace q301:=eq_true q301
           go_wp2_with (first|((with_reducible refine gate_callee (f:=35) rfl ?_);refine goesL_ (some 19) rfl rfl Tryz.func35 (by kernel_rfl) rfl #[.int .i64 (rd l0 x11_1),.int .i64 a1,.int .i64 a2] rfl mz ?_;(with_reducible refine (spec_l1In.calls (rd l0 x11_1) a1 a2 true _ A7.out).mono ?_);rintro e w' ⟨rfl,⟨nd,rfl⟩⟩;refine ⟨_,rfl,?_⟩;have p303 : 0 ≤ ((ji10) : Int):=of_decide_eq_true az;have q303 : (ji10) < (l0.length : Int):=of_decide_eq_true az;obtain ⟨ad303,e303,hx303_0⟩:=Kd.at_int HR0.out (ji10) p303 q303;obtain rfl : ad301 = ad303:=(by injection e303);replace p303:=eq_true p303;replace q303:=eq_true q303))
           go_roundg k1
           case measure=>have:=HK1.out;omega
           case rel=>exact ⟨(wrap64 (x11_1 + 1)),fz,H',⟨by have:=HK1.out;omega⟩,by repeat (first|exact Drawn0.refl _|apply Drawn0.step)⟩
         ·rw [if_neg c12] at H
          exact absurd H (by simp)
        ·rw [if_neg c11] at H
         exact absurd H (by simp)
       ·rw [if_neg c9] at H
        have c9b0 : decide (0 < x11_1) = false:=decide_eq_false c9
        clear c9
        have H':=Aside0.mk H
        clear H
        have p301 : 0 ≤ (x11_1 : Int):=of_decide_eq_true az
        have q301 : x11_1 < (l0.length : Int):=of_decide_eq_true az
        obtain ⟨ad301,e301,hx301_0⟩:=Kd.at_int HR0.out x11_1 p301 q301
        cases e301
        replace p301:=eq_true p301
        replace q301:=eq_true q301
        go_wp2_with (first|((with_reducible refine gate_callee (f:=35) rfl ?_);refine goesL_ (some 19) rfl rfl Tryz.func35 (by kernel_rfl) rfl #[.int .i64 (rd l0 x11_1),.int .i64 a1,.int .i64 a2] rfl mz ?_;(with_reducible refine (spec_l1In.calls (rd l0 x11_1) a1 a2 true _ A7.out).mono ?_);rintro e w' ⟨rfl,⟨nd,rfl⟩⟩;refine ⟨_,rfl,?_⟩))
        go_roundg k1
        case measure=>have:=HK1.out;omega
        case rel=>exact ⟨(wrap64 (x11_1 + 1)),fz,H',⟨by have:=HK1.out;omega⟩,by repeat (first|exact Drawn0.refl _|apply Drawn0.step)⟩
      ·replace c8:=Bool.eq_false_iff.mpr c8
       subst c8
       rw [if_neg (show ¬ (false = true) by decide)] at H
       obtain rfl:=Option.some.inj H
       have p301 : 0 ≤ (x11_1 : Int):=of_decide_eq_true az
       have q301 : x11_1 < (l0.length : Int):=of_decide_eq_true az
       obtain ⟨ad301,e301,hx301_0⟩:=Kd.at_int HR0.out x11_1 p301 q301
       cases e301
       replace p301:=eq_true p301
       replace q301:=eq_true q301
       go_wp2_with (first|((with_reducible refine gate_callee (f:=35) rfl ?_);refine goesL_ (some 19) rfl rfl Tryz.func35 (by kernel_rfl) rfl #[.int .i64 (rd l0 x11_1),.int .i64 a1,.int .i64 a2] rfl mz ?_;(with_reducible refine (spec_l1In.calls (rd l0 x11_1) a1 a2 false _ A7.out).mono ?_);rintro e w' ⟨rfl,⟨nd,rfl⟩⟩;refine ⟨_,rfl,?_⟩))
       go_ret
       exact ⟨by first|rfl|(simp;done)|(simp [*];done),by repeat (first|exact Drawn0.refl _|apply Drawn0.step)⟩
     ·rw [if_neg c6] at H
      exact absurd H (by simp)
    ·rw [if_neg c5] at H
     exact absurd H (by simp)
   ·rw [if_neg c4] at H
    have c4b0 : decide (x11_1 < (l0.length : Int)) = false:=decide_eq_false c4
    clear c4
    obtain rfl:=Option.some.inj H
    go_wp2
    go_ret
    exact ⟨by first|rfl|(simp;done)|(simp [*];done),by repeat (first|exact Drawn0.refl _|apply Drawn0.step)⟩
end Go.Proofs.YtlefjgpkabijdaaGreatDoor.MFnChainsArePlans
--sq
