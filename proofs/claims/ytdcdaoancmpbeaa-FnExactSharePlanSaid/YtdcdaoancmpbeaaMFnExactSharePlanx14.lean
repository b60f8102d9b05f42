import Derived.Test.YtdcdaoancmpbeaaMFnExactSharePlanx0
import Derived.Test.YtdcdaoancmpbeaaMFnExactSharePlanx10
import Derived.Test.YtdcdaoancmpbeaaMFnExactSharePlanx1
import Derived.Test.YtdcdaoancmpbeaaMFnExactSharePlanx2
import Derived.Test.YtdcdaoancmpbeaaMFnExactSharePlanx3
import Derived.Test.YtdcdaoancmpbeaaMFnExactSharePlanx4
import Derived.Test.YtdcdaoancmpbeaaMFnExactSharePlanx5
import Derived.Test.YtdcdaoancmpbeaaMFnExactSharePlanx6
import Derived.Test.YtdcdaoancmpbeaaMFnExactSharePlanx7
import Derived.Test.YtdcdaoancmpbeaaMFnExactSharePlanx8
import Derived.Test.YtdcdaoancmpbeaaMFnExactSharePlanx9
import Derived.Test.YtdcdaoancmpbeaaMFnExactSharePlanx11
import Derived.Test.YtdcdaoancmpbeaaMFnExactSharePlanx12
import Derived.Test.YtdcdaoancmpbeaaMFnExactSharePlanx13
namespace Go.Proofs.Ytdcdaoancmpbeaa.MFnExactSharePlan
open Go.RowKit Go.Proofs.YtdcdaoancmpbeaaW.PrintWords Go.Proofs.YtdcdaoancmpbeaaW.PrintLast Go.Proofs.YtdcdaoancmpbeaaW.PrintMore Go.Proofs.YtdcdaoancmpbeaaV Go.Proofs.YtdcdaoancmpbeaaZ
attribute [local go_sem] max2_int min2_int max_two min_two max_three min_three max_four min_four   -- for this text's walks alone
set_option linter.unusedVariables false
set_option linter.unusedSimpArgs false
/-! ### slices_Equal_int_int: function 109 -/
def slices_Equal_int_int.l0 : Nat → List Int → List Int → Int → Int → Option (Bool)
 | 0,_,_,_,_=>none
 | k + 1,x0,x1,x12,x13=>if x13 < x12 then (if 0 ≤ x13 then (if x13 < (x0.length : Int) then (if x13 < (x1.length : Int) then (if (rd x0 x13) = (rd x1 x13) then (slices_Equal_int_int.l0 k x0 x1 x12 (wrap64 (x13 + 1))) else (some false)) else (none)) else (none)) else (none)) else (some true)
def slices_Equal_int_int.f (k : Nat) (l0 : List Int) (l1 : List Int) : Option (Bool):=if (l0.length : Int) = (l1.length : Int) then (slices_Equal_int_int.l0 k l0 l1 (l0.length : Int) 0) else (some false)
theorem slices_Equal_int_int.mono_l : ∀ k,(∀ y0 y1 y2 y3,LeO (slices_Equal_int_int.l0 k y0 y1 y2 y3) (slices_Equal_int_int.l0 (k + 1) y0 y1 y2 y3))
 | 0=>fun _ _ _ _ r h=>by simp [slices_Equal_int_int.l0] at h
 | k + 1=>by
  have ih0:=slices_Equal_int_int.mono_l k
  ·intro y0 y1 y2 y3
   unfold slices_Equal_int_int.l0
   repeat' first
   | (with_reducible exact ih0 _ _ _ _)
   | (with_reducible exact LeO.refl _)
   | (with_reducible exact LeO.none _)
   | (with_reducible refine LeO.ite ?_ ?_)
   | (with_reducible refine LeO.bind ?_ (fun _=>?_))
   | exact ih0 _ _ _ _
   | exact LeO.none _
   | refine LeO.ite ?_ ?_
   | refine LeO.bind ?_ (fun _=>?_)
theorem slices_Equal_int_int.mono : ∀ a0 a1 k,LeO (slices_Equal_int_int.f k a0 a1) (slices_Equal_int_int.f (k + 1) a0 a1):=by
 intro a0 a1 k
 have ih0:=slices_Equal_int_int.mono_l k
 unfold slices_Equal_int_int.f
 repeat' first
   | (with_reducible exact ih0 _ _ _ _)
   | (with_reducible exact LeO.refl _)
   | (with_reducible exact LeO.none _)
   | (with_reducible refine LeO.ite ?_ ?_)
   | (with_reducible refine LeO.bind ?_ (fun _=>?_))
   | exact ih0 _ _ _ _
   | exact LeO.none _
   | refine LeO.ite ?_ ?_
   | refine LeO.bind ?_ (fun _=>?_)
set_option maxHeartbeats 8000000 in
set_option maxRecDepth 100000 in
theorem slices_Equal_int_int.calls (k : Nat) (A0 : Option Addr) (c0 : Nat) (l0 : List Int) (A1 : Option Addr) (c1 : Nat) (l1 : List Int) (r : Bool) (w : World) (hr0 : Kd.C (Kd.int .i64) w A0 l0.length l0) (hc0 : l0.length ≤ c0) (hr1 : Kd.C (Kd.int .i64) w A1 l1.length l1) (hc1 : l1.length ≤ c1) (h : slices_Equal_int_int.f k l0 l1 = some r) :
  Calls Try.prog 109 #[.slice A0 l0.length c0,.slice A1 l1.length c1] w fun e w'=>e = .returned (.bool r) ∧ Drawn0 w w':=by
 have HR0:=Aside0.mk hr0
 have HC0:=Aside0.mk hc0
 clear hr0 hc0
 have HR1:=Aside0.mk hr1
 have HC1:=Aside0.mk hc1
 clear hr1 hc1
 have H : (if (l0.length : Int) = (l1.length : Int) then (slices_Equal_int_int.l0 k l0 l1 (l0.length : Int) 0) else (some false)) = some r:=h
 clear h
 by_cases c3 : (l0.length : Int) = (l1.length : Int)
 ·rw [if_pos c3] at H
  have c3b0 : ((l0.length : Int) == (l1.length : Int)) = true:=beq_iff_eq.mpr c3
  have c3b1 : ((l0.length : Int) != (l1.length : Int)) = false:=bne_eq_false_iff_eq.mpr c3
  have c3b2 : (l0.length == l1.length) = true:=by first|simpa using c3|(simp at c3 ⊢;omega)
  clear c3
  have H':=Aside0.mk H
  clear H
  go_enter Try.func109,Try.ntmps109
  go_wp2
  repeat (go_quiet (fail);try go_wp2)
  go_loopg [13] k (fun kq v13 w'=>∃ (x13_1 : Int),v13 = .int .i64 x13_1 ∧ Aside0 (slices_Equal_int_int.l0 kq l0 l1 (l0.length : Int) x13_1 = some r) ∧ Aside0 (kq ≤ k) ∧ Drawn0 w w')
  case atStart=>exact ⟨(0),fz,H',⟨Nat.le_refl _⟩,by repeat (first|exact Drawn0.refl _|apply Drawn0.step)⟩
  case round=>
   clear H'
   try clear c1
   try clear p2
   try clear c3
   try clear c3b0
   try clear c3b1
   try clear c3b2
   obtain ⟨x13_1,rfl,HA,HK1,⟨m1,rfl⟩⟩:=hrel
   cases gk with
   | zero=>exact absurd HA.out (by simp [slices_Equal_int_int.l0])
   | succ k1=>
    have H:=HA.out
    clear HA
    simp only [slices_Equal_int_int.l0] at H
    by_cases c4 : x13_1 < (l0.length : Int)
    ·rw [if_pos c4] at H
     have c4b0 : decide (x13_1 < (l0.length : Int)) = true:=decide_eq_true c4
     clear c4
     by_cases c5 : 0 ≤ x13_1
     ·rw [if_pos c5] at H
      have c5b0 : decide (0 ≤ x13_1) = true:=decide_eq_true c5
      clear c5
      by_cases c6 : x13_1 < (l0.length : Int)
      ·rw [if_pos c6] at H
       have c6b0 : decide (x13_1 < (l0.length : Int)) = true:=decide_eq_true c6
       clear c6
       by_cases c7 : x13_1 < (l1.length : Int)
       ·rw [if_pos c7] at H
        have c7b0 : decide (x13_1 < (l1.length : Int)) = true:=decide_eq_true c7
        clear c7
        by_cases c8 : (rd l0 x13_1) = (rd l1 x13_1)
        ·rw [if_pos c8] at H
         have c8b0 : ((rd l0 x13_1) == (rd l1 x13_1)) = true:=beq_iff_eq.mpr c8
         have c8b1 : ((rd l0 x13_1) != (rd l1 x13_1)) = false:=bne_eq_false_iff_eq.mpr c8
         clear c8
         have H':=Aside0.mk H
         clear H
         have p390 : 0 ≤ (x13_1 : Int):=of_decide_eq_true az
         have q390 : x13_1 < (l0.length : Int):=of_decide_eq_true az
         obtain ⟨ad390,e390,hx390_0⟩:=Kd.at_int HR0.out x13_1 p390 q390
         cases e390
         replace p390:=eq_true p390
         replace q390:=eq_true q390
         have p391 : 0 ≤ (x13_1 : Int):=of_decide_eq_true az
         have q391 : x13_1 < (l1.length : Int):=of_decide_eq_true az
         obtain ⟨ad391,e391,hx391_0⟩:=Kd.at_int HR1.out x13_1 p391 q391
         cases e391
         replace p391:=eq_true p391
         replace q391:=eq_true q391
         go_wp2
         repeat (go_quiet (fail);try go_wp2)
         go_roundg k1
         case measure=>have:=HK1.out;omega
         case rel=>exact ⟨(wrap64 (x13_1 + 1)),fz,H',⟨by have:=HK1.out;omega⟩,by repeat (first|exact Drawn0.refl _|apply Drawn0.step)⟩
        ·rw [if_neg c8] at H
         have c8b0 : ((rd l0 x13_1) == (rd l1 x13_1)) = false:=beq_eq_false_iff_ne.mpr c8
         have c8b1 : ((rd l0 x13_1) != (rd l1 x13_1)) = true:=bne_iff_ne.mpr c8
         obtain rfl:=Option.some.inj H
         have p390 : 0 ≤ (x13_1 : Int):=of_decide_eq_true az
         have q390 : x13_1 < (l0.length : Int):=of_decide_eq_true az
         obtain ⟨ad390,e390,hx390_0⟩:=Kd.at_int HR0.out x13_1 p390 q390
         cases e390
         replace p390:=eq_true p390
         replace q390:=eq_true q390
         have p391 : 0 ≤ (x13_1 : Int):=of_decide_eq_true az
         have q391 : x13_1 < (l1.length : Int):=of_decide_eq_true az
         obtain ⟨ad391,e391,hx391_0⟩:=Kd.at_int HR1.out x13_1 p391 q391
         cases e391
         replace p391:=eq_true p391
         replace q391:=eq_true q391
         go_wp2
         repeat (go_quiet (fail);try go_wp2)
         go_ret
         exact ⟨by first|rfl|(simp;done)|(simp [*];done),by repeat (first|exact Drawn0.refl _|apply Drawn0.step)⟩
       ·rw [if_neg c7] at H
        exact absurd H (by simp)
      ·rw [if_neg c6] at H
       exact absurd H (by simp)
     ·rw [if_neg c5] at H
      exact absurd H (by simp)
    ·rw [if_neg c4] at H
     have c4b0 : decide (x13_1 < (l0.length : Int)) = false:=decide_eq_false c4
     clear c4
     obtain rfl:=Option.some.inj H
     go_wp2
     repeat (go_quiet (fail);try go_wp2)
     go_ret
     exact ⟨by first|rfl|(simp;done)|(simp [*];done),by repeat (first|exact Drawn0.refl _|apply Drawn0.step)⟩
 ·rw [if_neg c3] at H
  have c3b0 : ((l0.length : Int) == (l1.length : Int)) = false:=beq_eq_false_iff_ne.mpr c3
  have c3b1 : ((l0.length : Int) != (l1.length : Int)) = true:=bne_iff_ne.mpr c3
  have c3b2 : (l0.length == l1.length) = false:=by first|simpa using c3|(simp at c3 ⊢;omega)
  obtain rfl:=Option.some.inj H
  go_enter Try.func109,Try.ntmps109
  go_wp2
  repeat (go_quiet (fail);try go_wp2)
  go_ret
  exact ⟨by first|rfl|(simp;done)|(simp [*];done),by repeat (first|exact Drawn0.refl _|apply Drawn0.step)⟩
/-! ### impl_Plan_firstSame: function 64 -/
theorem impl_Plan_firstSame.eq_at (a b : List Int) (ha : a.length ≤ 1000000) : ∃ k,slices_Equal_int_int.f k a b = some (decide (a = b)):=by
 by_cases hl : a.length = b.length
 ·have loop : ∀ (d i : Nat),i + d = a.length → a.take i = b.take i → slices_Equal_int_int.l0 (d + 1) a b a.length i = some (decide (a = b)):=by
   intro d
   induction d with
   | zero=>
    intro i hi ht
    rw [slices_Equal_int_int.l0,if_neg (by omega)]
    rw [List.take_of_length_le (by omega),List.take_of_length_le (by omega)] at ht
    rw [decide_eq_true ht]
   | succ d ih=>
    intro i hi ht
    rw [slices_Equal_int_int.l0,if_pos (by omega),if_pos (by omega),if_pos (by omega),if_pos (by omega)]
    have ea : rd a (i : Int) = a[i]'(by omega):=by unfold rd;rw [Int.toNat_natCast];simp [List.getD,show i < a.length by omega]
    have eb : rd b (i : Int) = b[i]'(by omega):=by unfold rd;rw [Int.toNat_natCast];simp [List.getD,show i < b.length by omega]
    by_cases c : rd a (i : Int) = rd b (i : Int)
    ·rw [if_pos c,show wrap64 ((i : Int) + 1) = ((i + 1 : Nat) : Int) by unfold wrap64;omega]
     refine ih (i + 1) (by omega) ?_
     rw [List.take_succ_eq_append_getElem (by omega),List.take_succ_eq_append_getElem (by omega),ht,← ea,← eb,c]
    ·rw [if_neg c,decide_eq_false]
     rintro rfl
     exact c rfl
  refine ⟨a.length + 1,?_⟩
  unfold slices_Equal_int_int.f
  rw [if_pos (by omega)]
  exact loop a.length 0 (by omega) (by simp)
 ·refine ⟨0,?_⟩
  unfold slices_Equal_int_int.f
  rw [if_neg (by omega),decide_eq_false (fun e=>hl (by rw [e]))]
set_option maxHeartbeats 2000000 in
set_option maxRecDepth 100000 in
theorem impl_Plan_firstSame.same_calls (A0 : Option Addr) (c0 : Nat) (l0 : List Int) (B : Nat) (A1 : Option Addr) (c1 : Nat) (l1 : List Int) (w : World) (hbox : w.cell? ⟨B,0,none⟩ = some (.slice A0 l0.length c0)) (hr0 : Kd.C (Kd.int .i64) w A0 l0.length l0) (hc0 : l0.length ≤ c0) (hr1 : Kd.C (Kd.int .i64) w A1 l1.length l1) (hc1 : l1.length ≤ c1) (hl : l0.length ≤ 1000000) :
  Calls Try.prog 108 #[.slice A1 l1.length c1,.pointer (some ⟨B,0,none⟩)] w fun e w'=>e = .returned (.bool (decide (l0 = l1))) ∧ Below w.heap.size w w':=by
 obtain ⟨k,hk⟩:=impl_Plan_firstSame.eq_at l0 l1 hl
 generalize decide (l0 = l1) = b at *
 have HX:=Aside0.mk (slices_Equal_int_int.calls k A0 c0 l0 A1 c1 l1 b w hr0 hc0 hr1 hc1 hk)
 clear hr0 hc0 hr1 hc1 hk hl
 go_enter Try.func108,Try.ntmps108
 go_wp2_with (go_at_call 109;refine HX.out.mono ?_;rintro e w1 ⟨rfl,hd⟩;have HD:=Aside0.mk hd.below;clear hd)
 go_ret
 exact ⟨rfl,HD.out⟩
def impl_Plan_firstSame.firsts (rows : List (List Int)) : List Int:=(List.range rows.length).map fun (i : Nat)=>Go.Proofs.YtdcdaoancmpbeaaH.firstIx (fun j=>decide (Go.Proofs.YtdcdaoancmpbeaaH.rdRow rows (i : Int) = Go.Proofs.YtdcdaoancmpbeaaH.rdRow rows (j : Int))) rows.length 0
def impl_Plan_firstSame.small (rows : List (List Int)) : Bool:=decide (rows.length ≤ 1000) && rows.all (fun r=>decide (r.length ≤ 1000))
def impl_Plan_firstSame.f (k : Nat) (n : Int) (ss : List (S73)) (os : List Int) : Option (List Int):=(impl_Plan_exponents.f k n ss os).bind fun rows=>if impl_Plan_firstSame.small rows = true then some (impl_Plan_firstSame.firsts rows) else none
theorem impl_Plan_firstSame.mono : ∀ n ss os k,LeO (impl_Plan_firstSame.f k n ss os) (impl_Plan_firstSame.f (k + 1) n ss os):=by
 intro n ss os k
 unfold impl_Plan_firstSame.f
 exact LeO.bind (impl_Plan_exponents.mono _ _ _ _) (fun _=>LeO.refl _)
def impl_Plan_firstSame.elOf (w : World) (A : Option Addr) (j : Nat) : Value:=match A with|some ad=>(w.cell? (ad.add j)).getD (.bool false)|none=>.bool false
theorem impl_Plan_firstSame.elOf_some {w : World} {ad : Addr} {j : Nat} {v : Value} (h : w.cell? (ad.add j) = some v) : impl_Plan_firstSame.elOf w (some ad) j = v:=by show (w.cell? (ad.add j)).getD (.bool false) = v;rw [h];rfl
theorem impl_Plan_firstSame.row_len {rows : List (List Int)} (h : impl_Plan_firstSame.small rows = true) (j : Nat) : (Go.Proofs.YtdcdaoancmpbeaaH.rdRow rows (j : Int)).length ≤ 1000:=by
 unfold Go.Proofs.YtdcdaoancmpbeaaH.rdRow
 rw [Int.toNat_natCast,List.getD_eq_getElem?_getD]
 cases e : rows[j]? with
 | none=>simp
 | some r=>
  unfold impl_Plan_firstSame.small at h
  rw [Bool.and_eq_true,List.all_eq_true] at h
  have:=h.2 r (List.mem_of_getElem? e)
  simpa using this
set_option maxHeartbeats 2000000 in
set_option maxRecDepth 100000 in
theorem impl_Plan_firstSame.find_calls (rows : List (List Int)) (A : Option Addr) (c : Nat) (W : World) (hR : Kd.C (Kd.slice 3 (Kd.int .i64)) W A rows.length rows) (hsm : impl_Plan_firstSame.small rows = true) (i B : Nat) (A0 : Option Addr) (c0 : Nat) (hbox : W.cell? ⟨B,0,none⟩ = some (.slice A0 (Go.Proofs.YtdcdaoancmpbeaaH.rdRow rows (i : Int)).length c0)) (hr0 : Kd.C (Kd.int .i64) W A0 (Go.Proofs.YtdcdaoancmpbeaaH.rdRow rows (i : Int)).length (Go.Proofs.YtdcdaoancmpbeaaH.rdRow rows (i : Int))) (hc0 : (Go.Proofs.YtdcdaoancmpbeaaH.rdRow rows (i : Int)).length ≤ c0) :
  Calls Try.prog 107 #[.slice A rows.length c,.func (.func 108) #[] #[.pointer (some ⟨B,0,none⟩)]] W fun e W'=>e = .returned (.int .i64 (Go.Proofs.YtdcdaoancmpbeaaH.firstIx (fun j=>decide (Go.Proofs.YtdcdaoancmpbeaaH.rdRow rows (i : Int) = Go.Proofs.YtdcdaoancmpbeaaH.rdRow rows (j : Int))) rows.length 0)) ∧ Below W.heap.size W W':=by
 refine Go.Proofs.YtdcdaoancmpbeaaH.index_f107 W A rows.length c (impl_Plan_firstSame.elOf W A) _ 108 #[.pointer (some ⟨B,0,none⟩)] (enters_of Try.func108 (by kernel_rfl) rfl) (Kd.C_max hR) (fun hp=>?_) (fun j hj W2 hW=>?_)
 ·obtain ⟨ad,_,_,e,_⟩:=Go.Proofs.YtdcdaoancmpbeaaH.at_row hR 0 (by omega) (by omega)
  subst e
  refine ⟨ad,rfl,fun j hj=>?_⟩
  obtain ⟨ad',A',c',e',h',_⟩:=Go.Proofs.YtdcdaoancmpbeaaH.at_row hR (j : Int) (by omega) (by omega)
  obtain rfl : ad = ad':=by injection e'
  rw [Int.toNat_natCast] at h'
  rw [impl_Plan_firstSame.elOf_some h']
  exact h'
 ·obtain ⟨ad',A',c',e',h',hl',hC⟩:=Go.Proofs.YtdcdaoancmpbeaaH.at_row hR (j : Int) (by omega) (by omega)
  subst e'
  rw [Int.toNat_natCast] at h'
  rw [impl_Plan_firstSame.elOf_some h']
  exact impl_Plan_firstSame.same_calls A0 c0 _ B A' c' _ W2 (pw_cell_below hW hbox) (Kd.C_below hr0 hW) hc0 (Kd.C_below hC hW) hl' (by have:=impl_Plan_firstSame.row_len hsm i;omega)
set_option maxHeartbeats 4000000 in
set_option maxRecDepth 100000 in
theorem impl_Plan_firstSame.calls (k : Nat) (g0_ : Nat) (a0_0 : Int) (A0_1 : Option Addr) (c0_1 : Nat) (l0_1 : List (S73)) (A0_2 : Option Addr) (c0_2 : Nat) (l0_2 : List Int) (r : List Int) (w : World) (hx0_ : w.heap[g0_]? = some (.cells #[.int .i64 a0_0,.slice A0_1 l0_1.length c0_1,.slice A0_2 l0_2.length c0_2] 29 (0,0))) (hr0_1 : Kd.C k73 w A0_1 l0_1.length l0_1) (hc0_1 : l0_1.length ≤ c0_1) (hr0_2 : Kd.C (Kd.int .i64) w A0_2 l0_2.length l0_2) (hc0_2 : l0_2.length ≤ c0_2) (h : impl_Plan_firstSame.f k a0_0 l0_1 l0_2 = some r) :
  Calls Try.prog 64 #[.pointer (some ⟨g0_,0,none⟩)] w fun e w'=>∃ v0_ : Value,e = .returned v0_ ∧ Kd.R (Kd.int .i64) 3 w' w.heap.size (fun _=>True) v0_ r ∧ Below w.heap.size w w':=by
 unfold impl_Plan_firstSame.f at h
 obtain ⟨rows,he,h⟩:=Option.bind_eq_some_iff.mp h
 by_cases hsm : impl_Plan_firstSame.small rows = true
 ·rw [if_pos hsm] at h
  obtain ⟨fr,hfr⟩ : ∃ fr,fr = impl_Plan_firstSame.firsts rows:=⟨_,rfl⟩
  have hr : fr = r:=by rw [hfr];exact Option.some.inj h
  have hfl : fr.length = rows.length:=by rw [hfr];unfold impl_Plan_firstSame.firsts;simp
  have hfg : ∀ i : Nat,i < rows.length → fr[i]? = some (Go.Proofs.YtdcdaoancmpbeaaH.firstIx (fun j=>decide (Go.Proofs.YtdcdaoancmpbeaaH.rdRow rows (i : Int) = Go.Proofs.YtdcdaoancmpbeaaH.rdRow rows (j : Int))) rows.length 0):=fun i hi=>by rw [hfr];unfold impl_Plan_firstSame.firsts;simp [hi]
  subst hr
  have hrl : rows.length ≤ 1000:=by unfold impl_Plan_firstSame.small at hsm;rw [Bool.and_eq_true] at hsm;exact of_decide_eq_true hsm.1
  have HFG:=Aside0.mk hfg
  have HFL:=Aside0.mk (And.intro hfl hrl)
  have HSM:=Aside0.mk hsm
  have HE:=Aside0.mk (impl_Plan_exponents.calls k g0_ a0_0 A0_1 c0_1 l0_1 A0_2 c0_2 l0_2 rows w hx0_ hr0_1 hc0_1 hr0_2 hc0_2 he)
  clear h he hsm hfr hfl hfg hrl hx0_ hr0_1 hc0_1 hr0_2 hc0_2
  go_enter Try.func64,Try.ntmps64
  go_wp2_with (first|(go_at_call 72;refine HE.out.mono ?_;rintro e w1 ⟨v,rfl,hS,hB1⟩;obtain ⟨A,c,rfl⟩:=Kd.S_slice hS;have HR:=Aside0.mk (Kd.S_reads' hS).2.2;have HB1:=Aside0.mk hB1;clear hS hB1)|((with_reducible refine gate_dst (N:=9) rfl ?_);refine Kd.R_lit (Kd.int .i64) (w0:=w1) _ 3 ?hg (N:=9) ?hd (xs:=([] : List Int)) (inner:=[]) (ok:=fun _=>True) (okp:=fun _=>True) ?hr ?hp (fun _ hk=>hk) trivial (Below.refl _ _) (Nat.le_refl _) (by simp) ?_;(case hd=>rfl);(case hg=>rfl);(case hr=>first|(go_simp;done)|(go_simp;rfl));(case hp=>exact (Reps.none _ _));intro v9 w2 ho hb hg_ hnew_;clear hg_ hnew_;have HO:=Aside0.mk ho;have HB2:=Aside0.mk hb;clear hb ho))
  go_loopg [4,12] rows.length (fun gg s4 s12 wr=>∃ (kk : Nat) (out : List Int),Aside0 (kk ≤ rows.length ∧ rows.length - kk ≤ gg ∧ out = fr.take kk ∧ Kd.R (Kd.int .i64) 3 wr w1.heap.size (fun _=>True) s4 out ∧ Below w1.heap.size w1 wr) ∧ s12 = .int .i64 kk)
  case atStart=>exact ⟨0,[],⟨⟨Nat.zero_le _,by omega,by simp,HO.out,HB2.out⟩⟩,rfl⟩
  case round=>
   obtain ⟨kk,out,HK,rfl⟩:=hrel
   obtain ⟨h1,h2,h3,h4,h5⟩:=HK.out
   clear HK
   by_cases hlt : kk < rows.length
   ·have hltz : (kk : Int) < (rows.length : Int):=by omega
    obtain ⟨ad,A0,c0,ea,hx,hl0,hC0⟩:=Go.Proofs.YtdcdaoancmpbeaaH.at_row HR.out (kk : Int) (by omega) hltz
    subst ea
    rw [Int.toNat_natCast] at hx
    replace hx:=pw_cell_below h5 hx
    have hw:=below_alloc h5 (Obj.cells #[.slice A0 (Go.Proofs.YtdcdaoancmpbeaaH.rdRow rows (kk : Int)).length c0] 23)
    have HF:=Aside0.mk (impl_Plan_firstSame.find_calls rows (some ad) c (wr.alloc (Obj.cells #[.slice A0 (Go.Proofs.YtdcdaoancmpbeaaH.rdRow rows (kk : Int)).length c0] 23)) (Kd.C_below HR.out hw) HSM.out kk wr.heap.size A0 c0 ((blk_cell (heap_alloc_new wr (Obj.cells #[.slice A0 (Go.Proofs.YtdcdaoancmpbeaaH.rdRow rows (kk : Int)).length c0] 23)) 0).trans rfl) (Kd.C_below hC0 hw) hl0)
    have hfk:=HFG.out kk hlt
    generalize Go.Proofs.YtdcdaoancmpbeaaH.firstIx (fun j=>decide (Go.Proofs.YtdcdaoancmpbeaaH.rdRow rows (kk : Int) = Go.Proofs.YtdcdaoancmpbeaaH.rdRow rows (j : Int))) rows.length 0 = y at *
    have HFK:=Aside0.mk hfk
    generalize Go.Proofs.YtdcdaoancmpbeaaH.rdRow rows (kk : Int) = row at *
    have H2:=Aside0.mk h2
    have H3:=Aside0.mk h3
    have H4:=Aside0.mk h4
    have H5:=Aside0.mk h5
    clear h2 h3 h4 h5 hw hC0 hfk hl0
    go_wp2_with (first|(go_at_call 107;refine HF.out.mono ?_;rintro e w3 ⟨rfl,hb3⟩;have HB3:=Aside0.mk ((below_alloc (Below.refl _ wr) (Obj.cells #[.slice A0 row.length c0] 23)).trans (hb3.mono (below_alloc (Below.refl _ wr) (Obj.cells #[.slice A0 row.length c0] 23)).size));clear hb3)|((with_reducible refine gate_builtin (b:=.append) (xs:=#[.tmp 16,.tmp 20]) rfl ?_);at_builtin;refine Kd.R_append (Kd.int .i64) (w0:=w1) w1.heap.size rfl (.tmp 16) (.tmp 20) 23 3 (.int .i64 0) 8 rfl Try.underlying23 info3 rfl (by decide) (by omega) _ out y [.int .i64 y] (fun _=>True) (fun _=>False) rfl rfl ?aP (fun _ hk=>hk.elim) ?aF ?aO ?aB ?aS ?aL ?_;(case aP=>exact rfl);(case aB=>exact H5.out.trans (HB3.out.mono H5.out.size));(case aF=>exact (fun _ _=>trivial));(case aO=>exact Kd.R_below H4.out HB3.out);(case aS=>exact (H5.out.trans (HB3.out.mono H5.out.size)).size);(case aL=>have:=HFL.out;have e:=congrArg List.length H3.out;rw [List.length_take] at e;omega);intro v5 w5 ho hb hg hat;have HO5:=Aside0.mk ho;have HB5:=Aside0.mk hb;clear ho hb hg hat))
    go_roundg (rows.length - (kk + 1))
    case measure=>have:=H2.out;omega
    case rel=>
     have:=HFL.out
     refine ⟨kk + 1,out ++ [y],⟨⟨by omega,by omega,?_,HO5.out,HB5.out⟩⟩,by rw [show wrap64 ((kk : Int) + 1) = ((kk + 1 : Nat) : Int) by unfold wrap64;omega]⟩
     have hk2 : kk < fr.length:=by omega
     have e2:=HFK.out
     rw [List.getElem?_eq_getElem hk2] at e2
     rw [List.take_succ_eq_append_getElem hk2,← H3.out,Option.some.inj e2]
   ·have hltz : ¬ (kk : Int) < (rows.length : Int):=by omega
    obtain rfl : kk = rows.length:=by omega
    have H3:=Aside0.mk h3
    have H4:=Aside0.mk h4
    have H5:=Aside0.mk h5
    clear h2 h3 h4 h5
    go_wp2
    go_ret
    have e : out = fr:=by rw [H3.out,List.take_of_length_le (by have:=HFL.out;omega)]
    rw [e] at H4
    exact ⟨_,rfl,Kd.R_lower H4.out HB1.out.size,HB1.out.trans (H5.out.mono HB1.out.size)⟩
 ·rw [if_neg hsm] at h
  cases h
end Go.Proofs.Ytdcdaoancmpbeaa.MFnExactSharePlan
--sq
