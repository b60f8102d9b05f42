import Derived.Test.YtlefjgpkabijdaaMFnNeededPartsx0
import Derived.Test.YtlefjgpkabijdaaMFnNeededPartsx2
import Derived.Test.YtlefjgpkabijdaaMFnNeededPartsx3
import Derived.Test.YtlefjgpkabijdaaMFnNeededPartsx1
namespace Go.Proofs.Ytlefjgpkabijdaa.MFnNeededParts
open Go.RowKit Go.Proofs.YtlefjgpkabijdaaW.PrintWords Go.Proofs.YtlefjgpkabijdaaW.PrintLast Go.Proofs.YtlefjgpkabijdaaW.PrintMore Go.Proofs.YtlefjgpkabijdaaV Go.Proofs.YtlefjgpkabijdaaZ
attribute [local go_sem] max2_int min2_int max_two min_two max_three min_three max_four min_four   -- for this text's walks alone
set_option linter.unusedVariables false
set_option linter.unusedSimpArgs false
/-! ### impl_chainSteps: function 32 -/
def impl_chainSteps.l0 : Nat → List Int → List (S56) → Int → Option ((List (S56)))
 | 0,_,_,_=>none
 | k + 1,x0,x3,x4=>if x4 < (x0.length : Int) then ((impl_sums.f k x0 x4).bind fun t240=>(if 0 ≤ (wrap64 ((t240.length : Int) - 1)) then (if (wrap64 ((t240.length : Int) - 1)) < (t240.length : Int) then (if x3.length < 8796093022208 then (impl_chainSteps.l0 k x0 (x3 ++ [(⟨(rd_T56 t240 (wrap64 ((t240.length : Int) - 1))).f0,(rd_T56 t240 (wrap64 ((t240.length : Int) - 1))).f1⟩ : S56)]) (wrap64 (x4 + 1))) else (none)) else (none)) else (none))) else (some x3)
def impl_chainSteps.f (k : Nat) (l0 : List Int) : Option ((List (S56))):=impl_chainSteps.l0 k l0 (([] : List (S56))) 1
theorem impl_chainSteps.mono_l : ∀ k,(∀ y0 y1 y2,LeO (impl_chainSteps.l0 k y0 y1 y2) (impl_chainSteps.l0 (k + 1) y0 y1 y2))
 | 0=>fun _ _ _ r h=>by simp [impl_chainSteps.l0] at h
 | k + 1=>by
  have ih0:=impl_chainSteps.mono_l k
  ·intro y0 y1 y2
   unfold impl_chainSteps.l0
   repeat' first
   | (with_reducible exact ih0 _ _ _)
   | (with_reducible exact impl_sums.mono _ _ _)
   | (with_reducible exact LeO.refl _)
   | (with_reducible exact LeO.none _)
   | (with_reducible refine LeO.ite ?_ ?_)
   | (with_reducible refine LeO.bind ?_ (fun _=>?_))
   | exact ih0 _ _ _
   | exact impl_sums.mono _ _ _
   | exact LeO.none _
   | refine LeO.ite ?_ ?_
   | refine LeO.bind ?_ (fun _=>?_)
theorem impl_chainSteps.mono : ∀ a0 k,LeO (impl_chainSteps.f k a0) (impl_chainSteps.f (k + 1) a0):=by
 intro a0 k
 have ih0:=impl_chainSteps.mono_l k
 unfold impl_chainSteps.f
 repeat' first
   | (with_reducible exact ih0 _ _ _)
   | (with_reducible exact impl_sums.mono _ _ _)
   | (with_reducible exact LeO.refl _)
   | (with_reducible exact LeO.none _)
   | (with_reducible refine LeO.ite ?_ ?_)
   | (with_reducible refine LeO.bind ?_ (fun _=>?_))
   | exact ih0 _ _ _
   | exact impl_sums.mono _ _ _
   | exact LeO.none _
   | refine LeO.ite ?_ ?_
   | refine LeO.bind ?_ (fun _=>?_)
set_option maxHeartbeats 8000000 in
set_option maxRecDepth 100000 in
theorem impl_chainSteps.calls (k : Nat) (A0 : Option Addr) (c0 : Nat) (l0 : List Int) (r : List (S56)) (w : World) (hr0 : Kd.C (Kd.int .i64) w A0 l0.length l0) (hc0 : l0.length ≤ c0) (h : impl_chainSteps.f k l0 = some r) :
  Calls Try.prog 32 #[.slice A0 l0.length c0] w fun e w'=>∃ v0_ : Value,e = .returned (v0_) ∧ Kd.R k56 56 w' w.heap.size (fun _=>True) v0_ r ∧ Below w.heap.size w w':=by
 have hu56:=Try.underlying56
 have HR0:=Aside0.mk hr0
 have HC0:=Aside0.mk hc0
 clear hr0 hc0
 have HB:=Aside0.mk (Below.refl w.heap.size w)
 have H : (impl_chainSteps.l0 k l0 (([] : List (S56))) 1) = some r:=h
 clear h
 obtain ⟨y237,hy237⟩ : ∃ y_ : List (S56),y_ = (([] : List (S56))):=⟨_,rfl⟩
 replace H : (impl_chainSteps.l0 k l0 y237 1) = some r:=by first|(rw [hy237];with_reducible exact H)|(have H2_:=(Option.bind_some _ _).symm.trans H;rw [hy237];with_reducible exact H2_)|(have H2_:=(Option.bind_some _ _).symm.trans H;with_reducible exact H2_)|with_reducible exact H|(rw [hy237];exact H)|exact H
 have Ny237:=Aside0.mk hy237
 clear hy237
 have H':=Aside0.mk H
 clear H
 go_enter Try.func32,Try.ntmps32
 go_wp2_with (first|((with_reducible refine gate_dst (N:=6) rfl ?_);refine Kd.R_lit k56 _ 56 ?hg (N:=6) ?hd (xs:=([] : List (S56))) (inner:=[]) (ok:=fun _=>True) (okp:=fun _=>True) ?hr ?hp (fun _ hk=>hk) trivial (Below.refl _ _) (Nat.le_refl _) (by simp) ?_;(case hd=>rfl);(case hg=>rfl);(case hr=>first|(go_simp;done)|(go_simp;rfl));(case hp=>exact (Reps.none _ _));intro v238 w2 ho3 hb hg_ hnew_;clear hg_ hnew_;(first|rw [← Ny237.out] at ho3|(simp only [Int.reduceToNat] at ho3;rw [← Ny237.out] at ho3));have n0_:=Aside0.mk (Kd.R_lower ho3 (below_size bz));have n1_:=Aside0.mk (below_step bz hb);clear HB;have HO239:=n0_;have HB:=n1_;clear n0_ n1_;clear hb ho3))
 go_loopg [3,4] k (fun kq v3 v4 w'=>∃ (x3_1 : List (S56)) (x4_1 : Int),v4 = .int .i64 x4_1 ∧ Aside0 (impl_chainSteps.l0 kq l0 x3_1 x4_1 = some r) ∧ Aside0 (kq ≤ k) ∧ Aside0 (Kd.R k56 56 w' w.heap.size (fun _=>True) v3 x3_1) ∧ Aside0 (Below w.heap.size w w'))
 case atStart=>exact ⟨(y237),(1),fz,H',⟨Nat.le_refl _⟩,⟨by (with_reducible repeat (first|apply Kd.R_alloc|apply Kd.R_drewN|apply Kd.R_drew));exact HO239.out⟩,⟨by repeat (first|(with_reducible first|exact HB.out|apply below_alloc|apply pw_below_drewN|apply below_drew1)|exact HB.out)⟩⟩
 case round=>
  clear H'
  try clear p2
  try clear c3
  obtain ⟨x3_1,x4_1,rfl,HA,HK1,HO_3,HB⟩:=hrel
  cases gk with
  | zero=>exact absurd HA.out (by simp [impl_chainSteps.l0])
  | succ k1=>
   have H:=HA.out
   clear HA
   simp only [impl_chainSteps.l0] at H
   by_cases c4 : x4_1 < (l0.length : Int)
   ·rw [if_pos c4] at H
    have c4b0 : decide (x4_1 < (l0.length : Int)) = true:=decide_eq_true c4
    clear c4
    obtain ⟨t240,A5,H⟩:=bd H
    obtain ⟨ji6,hji6⟩ : ∃ j_ : Int,(wrap64 ((t240.length : Int) - 1)) = j_:=⟨_,rfl⟩
    replace H : (if 0 ≤ (ji6) then (if (ji6) < (t240.length : Int) then (if x3_1.length < 8796093022208 then (impl_chainSteps.l0 k1 l0 (x3_1 ++ [(⟨(rd_T56 t240 (ji6)).f0,(rd_T56 t240 (ji6)).f1⟩ : S56)]) (wrap64 (x4_1 + 1))) else (none)) else (none)) else (none)) = some r:=by first|(rw [hji6] at H;exact H)|(simp only [hji6] at H ⊢;exact H)
    (try rw [hji6] at A5)
    have hji6w : (IntKind.i64.wrap ((t240.length : Int) - 1)) = ji6:=(i64_w _).trans hji6
    by_cases c7 : 0 ≤ (ji6)
    ·rw [if_pos c7] at H
     have c7b0 : decide (0 ≤ (ji6)) = true:=decide_eq_true c7
     clear c7
     by_cases c8 : (ji6) < (t240.length : Int)
     ·rw [if_pos c8] at H
      have c8b0 : decide ((ji6) < (t240.length : Int)) = true:=decide_eq_true c8
      clear c8
      by_cases c9 : x3_1.length < 8796093022208
      ·rw [if_pos c9] at H
       have LMc9:=Aside0.mk c9
       clear c9
       obtain ⟨y244,hy244⟩ : ∃ y_ : List (S56),y_ = (x3_1 ++ [(⟨(rd_T56 t240 (ji6)).f0,(rd_T56 t240 (ji6)).f1⟩ : S56)]):=⟨_,rfl⟩
       replace H : (impl_chainSteps.l0 k1 l0 y244 (wrap64 (x4_1 + 1))) = some r:=by first|(rw [hy244];with_reducible exact H)|(have H2_:=(Option.bind_some _ _).symm.trans H;rw [hy244];with_reducible exact H2_)|(have H2_:=(Option.bind_some _ _).symm.trans H;with_reducible exact H2_)|with_reducible exact H|(rw [hy244];exact H)|exact H
       have Ny244:=Aside0.mk hy244
       clear hy244
       have H':=Aside0.mk H
       clear H
       go_wp2_with (first|((with_reducible refine gate_callee (f:=45) rfl ?_);refine goesL_ (some 15) rfl rfl Try.func45 (by kernel_rfl) rfl #[.slice A0 l0.length c0,.int .i64 x4_1] rfl mz ?_;(with_reducible refine (impl_sums.calls k1 _ _ l0 x4_1 t240 _ ?side1 ?side2 A5.out).mono ?_);(case side1=>exact cz (Kd.C_below HR0.out HB.out));(case side2=>exact HC0.out);rintro e w10 ⟨v241,rfl,ho0,hb⟩;refine ⟨_,rfl,?_⟩;have n0_:=Aside0.mk (Kd.R_elder' (rz HO_3.out) (Kd.R_base ho0) hb);have n1_:=Aside0.mk (Kd.R_lower (Kd.R_new' ho0 (Kd.R_lt (rz HO_3.out))) (below_size bz));have n2_:=Aside0.mk (below_step bz hb);clear HO_3 HB;have HO_3:=n0_;have HO242:=n1_;have HB:=n2_;clear n0_ n1_ n2_;(try clear hb);(try clear ho0);obtain ⟨Ao11,co11,eo11⟩:=Kd.R_slice HO242.out;subst eo11;have p243 : 0 ≤ ((ji6) : Int):=of_decide_eq_true az;have q243 : (ji6) < (t240.length : Int):=of_decide_eq_true az;obtain ⟨ad243,e243,hx243_0,hx243_1⟩:=at_T56 (Kd.R_reads' HO242.out).2.2 (ji6) p243 q243;cases e243;replace p243:=eq_true p243;replace q243:=eq_true q243)|((with_reducible refine gate_builtin (b:=.append) (xs:=#[.tmp 16,.tmp 23]) rfl ?_);at_builtin;refine Kd.R_append k56 (w0:=w) w.heap.size rfl (.tmp 16) (.tmp 23) 30 56 (.agg #[(.int .i64 0),(.int .i64 0)]) 16 rfl Try.underlying30 info56 rfl (by decide) (by omega) u3 x3_1 (⟨(rd_T56 t240 (ji6)).f0,(rd_T56 t240 (ji6)).f1⟩ : S56) [.int .i64 ((rd_T56 t240 (ji6)).f0),.int .i64 ((rd_T56 t240 (ji6)).f1)] (fun k_=>some k_ ≠ (.slice (some ad243) t240.length co11 : Value).ownBlock) (fun _=>False) rfl rfl ?aP (fun _ hk=>hk.elim) ?aF ?aO ?aB ?aS ?aL ?_;(case aP=>exact k56_mkM _ _ _ (⟨(rd_T56 t240 (ji6)).f0,(rd_T56 t240 (ji6)).f1⟩ : S56));(case aB=>exact bz);(case aF=>exact (fun k_ hk=>Kd.fresh' (Kd.R_lt (rz HO242.out)) k_ hk));(case aO=>exact (by (with_reducible repeat (first|apply Kd.R_alloc|apply Kd.R_drewN|apply Kd.R_drew));exact Kd.R_mono HO_3.out (fun _ hk=>hk.2)));(case aS=>exact (below_size bz));(case aL=>have:=LMc9.out;omega);intro v245 w12 ho hb hg hat;rw [← Ny244.out] at ho;have n0_:=Aside0.mk (Kd.R_after (ok:=(fun _=>True)) (rz HO242.out) hg hat);have n1_:=Aside0.mk (hb);have n2_:=Aside0.mk (ho);clear HO242 HB HO_3;have HO242:=n0_;have HB:=n1_;have HO246:=n2_;clear n0_ n1_ n2_;clear ho hb hg hat))
       go_roundg k1
       case measure=>have:=HK1.out;omega
       case rel=>exact ⟨(y244),(wrap64 (x4_1 + 1)),fz,H',⟨by have:=HK1.out;omega⟩,⟨by (with_reducible repeat (first|apply Kd.R_alloc|apply Kd.R_drewN|apply Kd.R_drew));exact Kd.R_mono HO246.out (fun _ hk=>trivial)⟩,⟨by repeat (first|(with_reducible first|exact HB.out|apply below_alloc|apply pw_below_drewN|apply below_drew1)|exact HB.out)⟩⟩
      ·rw [if_neg c9] at H
       exact absurd H (by simp)
     ·rw [if_neg c8] at H
      exact absurd H (by simp)
    ·rw [if_neg c7] at H
     exact absurd H (by simp)
   ·rw [if_neg c4] at H
    have c4b0 : decide (x4_1 < (l0.length : Int)) = false:=decide_eq_false c4
    clear c4
    obtain rfl:=Option.some.inj H
    go_wp2
    go_ret
    exact ⟨_,by first|rfl|(simp [errW_none,errW_some] <;> rfl)|(simp [*,errW_none,errW_some] <;> rfl),by (with_reducible repeat (first|apply Kd.R_alloc|apply Kd.R_drewN|apply Kd.R_drew));exact HO_3.out,by repeat (first|(with_reducible first|exact HB.out|apply below_alloc|apply pw_below_drewN|apply below_drew1)|exact HB.out)⟩
/-! ### impl_NeededPart: function 8 -/
section
open Go.Shelf Go.Proofs.YtlefjgpkabijdaaB
attribute [local go_sem] Oper.semAt_some
theorem impl_NeededPart.info : (Try.prog.info? 4).map (fun i=>(i.zero,i.size,i.bytes)) = some (some (.bool false),1,1):=by kernel_rfl
def impl_NeededPart.ok (l : List Int) (ss : List S56) : Bool:=
 decide (1 ≤ l.length) && decide (l.length ≤ 1000) && decide (ss.length + 1 = l.length) && ss.all (fun s=>decide (0 ≤ s.f0) && decide (s.f0 < l.length) && decide (0 ≤ s.f1) && decide (s.f1 < l.length))
theorem impl_NeededPart.ok_of {l : List Int} {ss : List S56} (h : impl_NeededPart.ok l ss = true) : 1 ≤ l.length ∧ l.length ≤ 1000 ∧ ss.length + 1 = l.length ∧ (∀ s ∈ ss,(0 ≤ s.f0 ∧ s.f0 < l.length) ∧ 0 ≤ s.f1 ∧ s.f1 < l.length):=by
 unfold impl_NeededPart.ok at h
 simp only [Bool.and_eq_true,decide_eq_true_eq,List.all_eq_true] at h
 obtain ⟨⟨⟨h1,h2⟩,h3⟩,h6⟩:=h
 exact ⟨h1,h2,h3,fun s hs=>by obtain ⟨⟨⟨a,b⟩,c⟩,d⟩:=h6 s hs;exact ⟨⟨a,b⟩,c,d⟩⟩
def impl_NeededPart.step (ss : List S56) (l : List Bool) (x : Nat) : List Bool:=if rdOf false l ((x : Int) + 1) = true then (l.set (rd_T56 ss x).f0.toNat true).set (rd_T56 ss x).f1.toNat true else l
def impl_NeededPart.start (n : Nat) : List Bool:=(List.replicate n false).set (n - 1) true
def impl_NeededPart.marks (n : Nat) (ss : List S56) : List Bool:=(down ss.length ss.length).foldl (impl_NeededPart.step ss) (impl_NeededPart.start n)
def impl_NeededPart.upto (l : List Int) (m : List Bool) (k : Nat) : List Int:=(List.range k).flatMap fun (i : Nat)=>if rdOf false m (i : Int) = true then [rd l (i : Int)] else []
theorem impl_NeededPart.upto_succ (l : List Int) (m : List Bool) (k : Nat) : impl_NeededPart.upto l m (k + 1) = impl_NeededPart.upto l m k ++ (if rdOf false m (k : Int) = true then [rd l (k : Int)] else []):=by
 unfold impl_NeededPart.upto
 rw [List.range_succ,List.flatMap_append]
 simp
theorem impl_NeededPart.upto_length (l : List Int) (m : List Bool) : ∀ k,(impl_NeededPart.upto l m k).length ≤ k
 | 0=>Nat.le_refl _
 | k + 1=>by
  have:=impl_NeededPart.upto_length l m k
  rw [impl_NeededPart.upto_succ,List.length_append]
  split <;> simp <;> omega
def impl_NeededPart.f (k : Nat) (l0 : List Int) : Option (List Int × Bool):=
 (impl_IsChain.f k l0).bind fun c=>if c = true then ((impl_chainSteps.f k l0).bind fun ss=>if impl_NeededPart.ok l0 ss = true then some (impl_NeededPart.upto l0 (impl_NeededPart.marks l0.length ss) l0.length,true) else none) else some ([],false)
theorem impl_NeededPart.mono : ∀ a0 k,LeO (impl_NeededPart.f k a0) (impl_NeededPart.f (k + 1) a0):=by
 intro a0 k
 unfold impl_NeededPart.f
 repeat' first
   | (with_reducible exact impl_IsChain.mono _ _)
   | (with_reducible exact impl_chainSteps.mono _ _)
   | (with_reducible exact LeO.refl _)
   | (with_reducible exact LeO.none _)
   | (with_reducible refine LeO.ite ?_ ?_)
   | (with_reducible refine LeO.bind ?_ (fun _=>?_))
theorem impl_NeededPart.step_length (ss : List S56) (l : List Bool) (x : Nat) : (impl_NeededPart.step ss l x).length = l.length:=by unfold impl_NeededPart.step;split <;> simp
theorem impl_NeededPart.steps_length (ss : List S56) : ∀ (xs : List Nat) (l : List Bool),(xs.foldl (impl_NeededPart.step ss) l).length = l.length
 | [],_=>rfl
 | x :: xs,l=>by rw [List.foldl_cons,impl_NeededPart.steps_length ss xs,impl_NeededPart.step_length]
theorem impl_NeededPart.start_length (n : Nat) : (impl_NeededPart.start n).length = n:=by unfold impl_NeededPart.start;rw [List.length_set,List.length_replicate]
/-- The world between two steps: the empty list's block,the variable's box,the marks' row. -/
def impl_NeededPart.St (w0 wr : World) (E B g cap : Nat) (l : List Bool) : Prop:=
 Boxed wr B 51 (.slice (some ⟨g,0,none⟩) l.length cap) ∧ Kd.R Kd.bool 4 wr w0.heap.size (fun _=>True) (.slice (some ⟨g,0,none⟩) l.length cap) l ∧ Below w0.heap.size w0 wr ∧ wr.heap[E]? = some (.cells #[] 3 (0,0)) ∧ w0.heap.size ≤ E
theorem impl_NeededPart.St.grown {w0 wr w' : World} {E B g cap : Nat} {l : List Bool} {row : Option Nat} (h : impl_NeededPart.St w0 wr E B g cap l) (hg : wr.grownBy w' row) (hr : ∀ r,row = some r → w0.heap.size ≤ r ∧ ∃ o : Obj,wr.heap[r]? = some o ∧ o.isCells = false) : impl_NeededPart.St w0 w' E B g cap l:=by
 obtain ⟨h2,h3,h4,h5,h6⟩:=h
 have ne : ∀ {k : Nat} {cs : Array Value} {t : TypeId},wr.heap[k]? = some (.cells cs t (0,0)) → some k ≠ row:=by
  intro k cs t hk e
  obtain ⟨_,o,ho,hc⟩:=hr k e.symm
  rw [hk] at ho
  cases ho
  cases hc
 refine ⟨h2.kept hg (ne h2),?_,h4.grown hg h4.size (fun k e=>(hr k e).1),(hg.block E (blk_lt h5) (ne h5)).trans h5,h6⟩
 exact Kd.R_mono (Kd.R_move (Kd.R_bound h3) (fun k hk=>by obtain ⟨_,_,hlt,q,_,cells,hc⟩:=hk;exact hg.block k hlt (ne hc))) (fun _ hk=>hk.1)
theorem impl_NeededPart.St.below {w0 wr w' : World} {E B g cap : Nat} {l : List Bool} (h : impl_NeededPart.St w0 wr E B g cap l) (hw : Below wr.heap.size wr w') : impl_NeededPart.St w0 w' E B g cap l:=
 h.grown (grown_of_below hw none) (fun r e=>by cases e)
theorem impl_NeededPart.St.set {w0 wr : World} {E B g cap : Nat} {l : List Bool} (h : impl_NeededPart.St w0 wr E B g cap l) (i : Int) : impl_NeededPart.St w0 (wr.setCell ⟨g,i.toNat,none⟩ (.bool true)) E B g cap (l.set i.toNat true):=by
 obtain ⟨h2,h3,h4,h5,h6⟩:=h
 obtain ⟨p1,p2⟩:=Kd.R_putg h3 i true
 refine ⟨?_,?_,h4.grown p2 h4.size (fun k e=>by cases e;exact Kd.R_base h3 g rfl),(p2.block E (blk_lt h5) (Kd.R_ne h3 h5 (by decide))).trans h5,h6⟩
 ·rw [List.length_set];exact h2.kept p2 (Kd.R_ne h3 h2 (by decide))
 ·rw [List.length_set];exact p1
theorem impl_NeededPart.St.cell {w0 wr : World} {E B g cap : Nat} {l : List Bool} (h : impl_NeededPart.St w0 wr E B g cap l) (i : Int) (h0 : 0 ≤ i) (h1 : i < l.length) : wr.cell? ⟨g,i.toNat,none⟩ = some (.bool (rdOf false l i)) ∧ wr.frozen? ⟨g,i.toNat,none⟩ = false:=Kd.R_celln false h.2.1 i h0 h1
theorem impl_NeededPart.St.new {w0 w5 w6 : World} {g cap n : Nat} {l : List Bool} (hn : l.length = n) (hb5 : Below w0.heap.size w0 w5) (hb : Below w5.heap.size w5 w6) (ho : Kd.R Kd.bool 4 w6 w5.heap.size (fun _=>True) (.slice (some ⟨g,0,none⟩) n cap) l) :
  impl_NeededPart.St w0 ((w6.alloc (Obj.cells #[] 3)).alloc (Obj.cells #[.slice (some ⟨g,0,none⟩) n cap] 51)) w6.heap.size (w6.heap.size + 1) g cap l:=by
 subst hn
 have hB:=hb5.trans (hb.mono hb5.size)
 have h1:=Boxed.new (w6.alloc (Obj.cells #[] 3)) 51 (.slice (some ⟨g,0,none⟩) l.length cap)
 have e1 : (w6.alloc (Obj.cells #[] 3)).heap.size = w6.heap.size + 1:=by simp
 rw [e1] at h1
 have h2 : (w6.alloc (Obj.cells #[] 3)).heap[w6.heap.size]? = some (Obj.cells #[] 3 (0,0)):=Go.Proofs.YtlefjgpkabijdaaS.new_blk w6 _
 refine ⟨h1,Kd.R_below (Kd.R_below (Kd.R_lower ho hb5.size) (below_alloc (Below.refl _ _) _)) (below_alloc (Below.refl _ _) _),?_,((below_alloc (Below.refl _ _) _).block _ (blk_lt h2)).trans h2,hB.size⟩
 exact (hB.trans ((below_alloc (Below.refl _ _) _).mono hB.size)).trans ((below_alloc (Below.refl _ _) _).mono (by rw [e1];have:=hB.size;omega))
theorem impl_NeededPart.made {w w5 w6 : World} {g cap n : Nat} (h1 : 1 ≤ n) (h2 : n ≤ 1000) (hb5 : Below w.heap.size w w5) (hb : Below w5.heap.size w5 w6) (ho : Kd.R Kd.bool 4 w6 w5.heap.size (fun _=>True) (.slice (some ⟨g,0,none⟩) n cap) (List.replicate n false)) :
  w6.cell? ⟨g,(wrap64 ((n : Int) - 1)).toNat,none⟩ = some (.bool (rdOf false (List.replicate n false) (wrap64 ((n : Int) - 1)))) ∧ w6.frozen? ⟨g,(wrap64 ((n : Int) - 1)).toNat,none⟩ = false ∧
  impl_NeededPart.St w (((w6.setCell ⟨g,(wrap64 ((n : Int) - 1)).toNat,none⟩ (.bool true)).alloc (Obj.cells #[] 3)).alloc (Obj.cells #[.slice (some ⟨g,0,none⟩) n cap] 51)) w6.heap.size (w6.heap.size + 1) g cap (impl_NeededPart.start n):=by
 have e : wrap64 ((n : Int) - 1) = (n : Int) - 1:=by unfold wrap64;omega
 have q0 : 0 ≤ wrap64 ((n : Int) - 1):=by rw [e];omega
 have q1 : wrap64 ((n : Int) - 1) < (n : Int):=by rw [e];omega
 obtain ⟨c,f⟩:=Kd.R_celln false ho _ q0 q1
 obtain ⟨p1,p2⟩:=Kd.R_putg ho (wrap64 ((n : Int) - 1)) true
 refine ⟨c,f,?_⟩
 have es : (w6.setCell ⟨g,(wrap64 ((n : Int) - 1)).toNat,none⟩ (.bool true)).heap.size = w6.heap.size:=by simp [World.setCell]
 have hl : (impl_NeededPart.start n).length = n:=impl_NeededPart.start_length n
 have et : (wrap64 ((n : Int) - 1)).toNat = n - 1:=by rw [e];omega
 have:=impl_NeededPart.St.new (w6:=w6.setCell ⟨g,(wrap64 ((n : Int) - 1)).toNat,none⟩ (.bool true)) hl hb5 (below_set hb (Kd.R_base ho g rfl)) (by have q:=p1;rw [show (List.replicate n false).set (wrap64 ((n : Int) - 1)).toNat true = impl_NeededPart.start n by unfold impl_NeededPart.start;rw [et]] at q;exact q)
 rwa [es] at this
theorem impl_NeededPart.eight (a k n : Nat) (h1 : a ≤ k) (h2 : k < n) (h3 : n ≤ 1000) : (a + 1) * 8 ≤ 140737488355328:=by omega
theorem impl_NeededPart.next (k n : Nat) (h2 : k < n) (h3 : n ≤ 1000) : wrap64 ((k : Int) + 1) = ((k + 1 : Nat) : Int):=by unfold wrap64;omega
/-- .. while what is needed is gathered: v,the row of it;D,the record of the range. -/
def impl_NeededPart.S2 (w0 wr : World) (B g cap D : Nat) (l : List Bool) (v : Value) (xs : List Int) : Prop:=
 Boxed wr B 51 (.slice (some ⟨g,0,none⟩) l.length cap) ∧ Kd.R Kd.bool 4 wr w0.heap.size (fun _=>True) (.slice (some ⟨g,0,none⟩) l.length cap) l ∧ Below w0.heap.size w0 wr ∧ wr.heap[D]? = some (Obj.deferred (some [])) ∧ Kd.R (Kd.int .i64) 3 wr w0.heap.size (fun k=>k ≠ g ∧ k ≠ B ∧ k ≠ D) v xs
theorem impl_NeededPart.S2.start {w0 wr : World} {E B g cap D : Nat} {l : List Bool} (h : impl_NeededPart.St w0 wr E B g cap l) (hd : wr.heap[D]? = some (Obj.deferred (some []))) (hEB : E ≠ B) : impl_NeededPart.S2 w0 wr B g cap D l (.slice (some ⟨E,0,none⟩) 0 0) []:=by
 obtain ⟨h2,h3,h4,h5,h6⟩:=h
 have n1 : E ≠ g:=fun e=>by have:=Kd.R_ne h3 h5 (by decide);exact this (by rw [e];rfl)
 have n2 : E ≠ D:=fun e=>by rw [e,hd] at h5;cases h5
 exact ⟨h2,h3,h4,hd,Go.Proofs.YtlefjgpkabijdaaS.own_of_cells (l:=[]) h5 h6 rfl (Nat.le_refl _) (by unfold maxLen;omega) rfl ⟨n1,hEB,n2⟩ (fun j hj=>absurd hj (Nat.not_lt_zero _))⟩
theorem impl_NeededPart.S2.below {w0 wr w' : World} {B g cap D : Nat} {l : List Bool} {v : Value} {xs : List Int} (h : impl_NeededPart.S2 w0 wr B g cap D l v xs) (hw : Below wr.heap.size wr w') : impl_NeededPart.S2 w0 w' B g cap D l v xs:=by
 obtain ⟨h1,h2,h3,h4,h5⟩:=h
 exact ⟨(hw.block _ h1.lt).trans h1,Kd.R_below h2 hw,h3.trans (hw.mono h3.size),(hw.block _ (blk_lt h4)).trans h4,Kd.R_below h5 hw⟩
theorem impl_NeededPart.S2.app {w0 W w1 : World} {B g cap D : Nat} {l : List Bool} {v v1 : Value} {xs ys : List Int} (h : impl_NeededPart.S2 w0 W B g cap D l v xs) (ho : Kd.R (Kd.int .i64) 3 w1 w0.heap.size (fun k=>k ≠ g ∧ k ≠ B ∧ k ≠ D) v1 ys) (hb : Below w0.heap.size w0 w1) (hg : W.grownBy w1 v.ownBlock) : impl_NeededPart.S2 w0 w1 B g cap D l v1 ys:=by
 obtain ⟨h1,h2,h3,h4,h5⟩:=h
 have ok:=h5.1
 refine ⟨h1.kept hg (fun e=>(ok B e.symm).2.1 rfl),?_,hb,(hg.block D (blk_lt h4) (fun e=>(ok D e.symm).2.2 rfl)).trans h4,ho⟩
 have h2' : Kd.R Kd.bool 4 W w0.heap.size (fun k=>k = g) (.slice (some ⟨g,0,none⟩) l.length cap) l:=Kd.R_of_own (enc:=Value.bool) (h1:=fun _=>rfl) (Kd.own_of_R h2) (fun k hk=>by cases hk;rfl)
 exact Kd.R_mono (Kd.R_grown h2' hg (fun k hk e=>by subst hk;exact (ok _ e.symm).1 rfl)) (fun _ _=>trivial)
theorem impl_NeededPart.S2.fresh {w0 W : World} {B g cap D : Nat} {l : List Bool} {v : Value} {xs : List Int} (h : impl_NeededPart.S2 w0 W B g cap D l v xs) : ∀ k,W.heap.size ≤ k → k ≠ g ∧ k ≠ B ∧ k ≠ D:=by
 obtain ⟨h1,h2,h3,h4,h5⟩:=h
 have a:=Kd.R_lt h2 g rfl
 have b:=h1.lt
 have c:=blk_lt h4
 intro k hk
 omega
/-- What holds while the two stores of a round are under way. -/
def impl_NeededPart.RI (Wa : World) (g B Bx len cap : Nat) (A C : Int) (L : Array Bool) (a : Act) (w' : World) : Prop:=
 (L.size = 10 ∧ a.tmps.size = 57 ∧ a.tmps.getD 4 undef = .pointer (some ⟨B,0,none⟩) ∧ a.tmps.getD 7 undef = .pointer (some ⟨Bx,0,none⟩)) ∧
 ((L.getD 0 false = true → a.tmps.getD 32 undef = .slice (some ⟨g,0,none⟩) len cap) ∧ (L.getD 1 false = true → a.tmps.getD 33 undef = .pointer (some ⟨Bx,0,none⟩)) ∧ (L.getD 2 false = true → a.tmps.getD 34 undef = .int .i64 A) ∧
 (L.getD 3 false = true → a.tmps.getD 35 undef = .slice (some ⟨g,0,none⟩) len cap) ∧ (L.getD 4 false = true → a.tmps.getD 36 undef = .pointer (some ⟨Bx,1,none⟩)) ∧ (L.getD 5 false = true → a.tmps.getD 37 undef = .int .i64 C) ∧
 (L.getD 6 false = true → a.tmps.getD 38 undef = .pointer (some ⟨g,A.toNat,none⟩)) ∧ (L.getD 8 false = true → a.tmps.getD 39 undef = .pointer (some ⟨g,C.toNat,none⟩))) ∧
 ((w' = Wa ∧ L.getD 7 false = false ∧ L.getD 9 false = false) ∨ (w' = Wa.setCell ⟨g,A.toNat,none⟩ (.bool true) ∧ L.getD 7 false = true ∧ L.getD 9 false = false) ∨ (w' = (Wa.setCell ⟨g,A.toNat,none⟩ (.bool true)).setCell ⟨g,C.toNat,none⟩ (.bool true) ∧ L.getD 7 false = true ∧ L.getD 9 false = true))
set_option maxHeartbeats 4000000 in
set_option maxRecDepth 100000 in
theorem impl_NeededPart.calls (k : Nat) (A0 : Option Addr) (c0 : Nat) (l0 : List Int) (r1 : List Int) (r2 : Bool) (w : World) (hr0 : Kd.C (Kd.int .i64) w A0 l0.length l0) (hc0 : l0.length ≤ c0) (h : impl_NeededPart.f k l0 = some (r1,r2)) :
  Calls Try.prog 8 #[.slice A0 l0.length c0] w fun e w'=>∃ v0_ : Value,e = .returned (.tuple #[v0_,.bool r2]) ∧ Kd.R (Kd.int .i64) 3 w' w.heap.size (fun _=>True) v0_ r1 ∧ Below w.heap.size w w':=by
 unfold impl_NeededPart.f at h
 obtain ⟨c,hch,h⟩:=Option.bind_eq_some_iff.1 h
 have HR:=Aside0.mk hr0
 have HC0:=Aside0.mk hc0
 have HCH:=Aside0.mk hch
 clear hr0 hc0 hch
 cases c with
 | false=>
  obtain ⟨rfl,rfl⟩ : r1 = [] ∧ r2 = false:=by simp at h;exact h
  clear h
  go_enter Try.func8,Try.ntmps8
  go_wp2_with (go_at_call 15;refine (impl_IsChain.calls k A0 c0 l0 false w HR.out HC0.out HCH.out).mono ?_;rintro e w5 ⟨rfl,hb⟩;have HB5:=Aside0.mk hb;clear hb)
  go_ret2
  exact ⟨_,rfl,Kd.R_nil _ _ _ _ _,HB5.out⟩
 | true=>
  rw [if_pos rfl] at h
  obtain ⟨ss,hss,h⟩:=Option.bind_eq_some_iff.1 h
  by_cases hok : impl_NeededPart.ok l0 ss = true
  ·rw [if_pos hok] at h
   have HRES:=Aside0.mk (show impl_NeededPart.upto l0 (impl_NeededPart.marks l0.length ss) l0.length = r1 ∧ true = r2 by simpa using h)
   have HSS:=Aside0.mk hss
   obtain ⟨n1,n2,n3,n6⟩:=impl_NeededPart.ok_of hok
   have N6:=Aside0.mk n6
   have NN:=Aside0.mk (show 1 ≤ l0.length ∧ l0.length ≤ 1000 ∧ ss.length + 1 = l0.length from ⟨n1,n2,n3⟩)
   clear h hok hss n1 n2 n3 n6
   refine (callsIn_wide (n:=8)).1 (callsIn_of_wp_marks Try.func8 rfl trivial ?_ rfl)
   refine wpIn_wide.2 ?_
   simp only [Try.ntmps8,List.size_toArray,List.length_cons,List.length_nil,Nat.reduceAdd,Nat.reduceSub,Array.replicate_succ,Array.replicate_zero,List.push_toArray,List.append_toArray,List.nil_append,List.cons_append]
   go_wp2_with (first|(go_at_call 15;refine (impl_IsChain.calls k A0 c0 l0 true w HR.out HC0.out HCH.out).mono ?_;rintro e w5 ⟨rfl,hb⟩;have HB5:=Aside0.mk hb;clear hb)|((with_reducible refine gate_dst (N:=15) rfl ?_);refine Kd.R_make Kd.bool _ 4 rfl (N:=15) rfl 51 _ _ rfl (l0.length : Int) rfl rfl Try.underlying51 (.bool false) 1 impl_NeededPart.info rfl (by decide) (by omega) false (ok:=fun _=>True) (okp:=fun _=>True) rfl (fun _ hk=>hk) trivial (by have:=NN.out;omega) (by have:=NN.out;omega) (Below.refl _ _) (Nat.le_refl _) ?_;intro v w6 ho hb hg_ hnew_;clear hg_ hnew_;obtain ⟨g,cap,rfl,_⟩:=Kd.R_form ho (by rw [List.length_replicate];have:=NN.out;omega);rw [List.length_replicate,Int.toNat_natCast] at ho;obtain ⟨c6,f6,hS⟩:=impl_NeededPart.made NN.out.1 NN.out.2.1 HB5.out hb ho;have HS:=Aside0.mk hS;have q0 : 0 ≤ wrap64 ((l0.length : Int) - 1):=(by have:=NN.out;unfold wrap64;omega);have q1 : wrap64 ((l0.length : Int) - 1) < (l0.length : Int):=(by have:=NN.out;unfold wrap64;omega);clear hS ho hb)|(go_at_call 32;refine (impl_chainSteps.calls k A0 c0 l0 ss _ (Kd.C_below HR.out HS.out.2.2.1) HC0.out HSS.out).mono ?_;rintro e w8 ⟨v8,rfl,ho,hb⟩;have HS8:=Aside0.mk (HS.out.below hb);have HO8:=Aside0.mk ho;clear ho hb;obtain ⟨A8,c8,e8⟩:=Kd.R_slice HO8.out;subst e8)|(go_at_call 31;refine (back_f31 _ _ _ _).mono ?_;rintro e w' ⟨rfl,rfl⟩))
   have HGL:=Aside0.mk (show g < (((w6.setCell { block:=g,off:=(wrap64 ((l0.length : Int) - 1)).toNat,spot:=none } (Value.bool true)).alloc (Obj.cells #[] 3)).alloc (Obj.cells #[Value.slice (some { block:=g,off:=0 }) l0.length cap] 51)).heap.size from Kd.R_lt HS.out.2.1 g rfl)
   have hst : Kd.C k56 w8 A8 ss.length ss:=(Kd.R_reads' HO8.out).2.2
   have hcl : 0 < ss.length → ∃ ad,A8 = some ad ∧ ad.block < w8.heap.size ∧ g < ad.block ∧ ∀ j,j < ss.length → w8.cell? (ad.add (j * 2)) = some (.int .i64 (rd_T56 ss (j : Int)).f0) ∧ w8.cell? ⟨(ad.add (j * 2)).block,(ad.add (j * 2)).off + 1,none⟩ = some (.int .i64 (rd_T56 ss (j : Int)).f1):=fun hp=>by
    obtain ⟨ad,ea,hx,_⟩:=at_T56 hst (0 : Int) (by omega) (by omega)
    subst ea
    have hgb : g < ad.block:=Nat.lt_of_lt_of_le HGL.out (Kd.R_base HO8.out ad.block rfl)
    refine ⟨ad,rfl,by have:=World.block_lt_of_cell? _ _ hx;rwa [add_block] at this,hgb,fun j hj=>?_⟩
    obtain ⟨ad',ea,hx0,hx1⟩:=at_T56 hst (j : Int) (by omega) (by omega)
    obtain rfl : ad = ad':=by injection ea
    rw [Int.toNat_natCast] at hx0 hx1
    exact ⟨hx0,hx1⟩
   obtain ⟨W0,hW0⟩ : ∃ W0,w8.alloc (Obj.cells #[.slice A8 ss.length c8] 30) = W0:=⟨_,rfl⟩
   have hS0 : impl_NeededPart.St w W0 w6.heap.size (w6.heap.size + 1) g cap (impl_NeededPart.start l0.length):=by rw [← hW0];exact HS8.out.below (below_alloc (Below.refl _ _) _)
   have hBs : Boxed W0 w8.heap.size 30 (.slice A8 ss.length c8):=by rw [← hW0];exact Boxed.new _ _ _
   have hsz : W0.heap.size = w8.heap.size + 1:=by rw [← hW0];simp
   have hw0 : w.heap.size ≤ W0.heap.size:=hS0.2.2.1.size
   have hge : w.heap.size ≤ g:=Kd.R_base hS0.2.1 g rfl
   have hgl : g < W0.heap.size:=Kd.R_lt hS0.2.1 g rfl
   rw [hW0]
   have HSB:=Aside0.mk (show ∀ i,(i = w8.heap.size ∨ (0 < ss.length ∧ ∃ ad,A8 = some ad ∧ i = ad.block)) → i < W0.heap.size from fun i hi=>by
    rcases hi with rfl|⟨hp,ad,ea,rfl⟩
    ·omega
    ·obtain ⟨ad',ea',hb,_⟩:=hcl hp
     rw [ea] at ea'
     cases ea'
     omega)
   have HSG:=Aside0.mk (show ∀ i,(i = w8.heap.size ∨ (0 < ss.length ∧ ∃ ad,A8 = some ad ∧ i = ad.block)) → i ≠ g from fun i hi e=>by
    rcases hi with rfl|⟨hp,ad,ea,rfl⟩
    ·exact Kd.R_ne hS0.2.1 hBs (by decide) (by rw [e];rfl)
    ·obtain ⟨ad',ea',hb,hgb,_⟩:=hcl hp
     rw [ea] at ea'
     cases ea'
     omega)
   have HCL:=Aside0.mk hcl
   have HW8:=Aside0.mk (show Below w8.heap.size w8 W0 by rw [← hW0];exact below_alloc (Below.refl _ _) _)
   clear hcl hW0 hst
   refine (wpIn_wide (n:=8)).1 ?_
   refine wpIn_rangeFunc_ownH rfl (by decide) (gf:=65) (lb:=#[.pointer (some ⟨w8.heap.size,0,none⟩)]) rfl trivial (enters_of Try.func65 (by kernel_rfl) rfl)
    (back_stops_f31 Fence.wide 7 trivial rfl (by decide) w8.heap.size A8 ss.length c8 (fun j=>(rd_T56 ss (j : Int)).f0) (fun j=>(rd_T56 ss (j : Int)).f1) (by have:=NN.out;omega) W0 hBs ?cells)
    (fun h k=>Keeps.trans h k) ?hKb (Below.refl _ _) (fun _=>rfl)
    (fun pre W=>∃ l',l' = (pre.map Fin.val).foldl (impl_NeededPart.step ss) (impl_NeededPart.start l0.length) ∧ impl_NeededPart.St w W w6.heap.size (w6.heap.size + 1) g cap l' ∧ W0.heap.size ≤ W.heap.size)
    (fun _ _ _=>False) ?hI (fun _ _ _ _ _ hs _ _=>hs) ⟨impl_NeededPart.start l0.length,rfl,hS0,Nat.le_refl _⟩
    (fun x a' W=>∃ Bx,W.heap[Bx]? = some (.cells #[.int .i64 (rd_T56 ss (x.1 : Int)).f0,.int .i64 (rd_T56 ss (x.1 : Int)).f1] 56 (0,0)) ∧ W0.heap.size ≤ Bx ∧ a' = { tmps:=#[Value.slice A0 l0.length c0,undef,Value.slice none 0 0,Value.bool false,Value.pointer (some { block:=w6.heap.size + 1,off:=0 }),Value.slice (some { block:=w6.heap.size,off:=0 }) 0 0,.int .i64 (x.1 : Int),.pointer (some ⟨Bx,0,none⟩),undef,undef,Value.slice A0 l0.length c0,Value.bool true,Value.bool false,Value.slice A0 l0.length c0,Value.int IntKind.i64 ↑l0.length,Value.slice (some { block:=g,off:=0 }) l0.length cap,Value.slice (some { block:=w6.heap.size,off:=0 }) 0 0,Value.slice (some { block:=g,off:=0 }) l0.length cap,Value.slice A0 l0.length c0,Value.int IntKind.i64 ↑l0.length,Value.int IntKind.i64 (wrap64 (↑l0.length - 1)),Value.pointer (some { block:=g,off:=(wrap64 (↑l0.length - 1)).toNat }),Value.slice A0 l0.length c0,Value.slice A8 ss.length c8,Value.func (Fn.func 65) #[] #[Value.pointer (some { block:=w8.heap.size,off:=0 })],.int .i64 (x.1 : Int),.agg #[.int .i64 (rd_T56 ss (x.1 : Int)).f0,.int .i64 (rd_T56 ss (x.1 : Int)).f1],undef,undef,undef,undef,undef,undef,undef,undef,undef,undef,undef,undef,undef,undef,undef,undef,undef,undef,undef,undef,undef,undef,undef,undef,undef,undef,undef,undef,undef,undef],defers:=[] })
    ?hAx ?assign ?body ?done ?stop
   case cells=>
    intro hp
    obtain ⟨ad,ea,hb,_,hc⟩:=HCL.out hp
    exact ⟨ad,ea,by omega,fun j hj=>⟨pw_cell_below HW8.out (hc j hj).1,pw_cell_below HW8.out (hc j hj).2⟩⟩
   case hKb=>exact fun W ll o o' hle ho h1 h2 i hi=>World.putObj_heap_other (by have:=HSB.out i hi;omega)
   case hI=>
    intro s A B row hs hg hr
    obtain ⟨l',e',hs,hz⟩:=hs
    exact ⟨l',e',hs.grown hg (fun r e=>⟨Nat.le_trans hw0 (hr r e).1,(hr r e).2⟩),Nat.le_trans hz hg.size⟩
   case hAx=>
    intro x a' s A B row hs hg hr
    obtain ⟨Bx,hb,hz,e⟩:=hs
    refine ⟨Bx,(hg.block Bx (blk_lt hb) (fun e=>?_)).trans hb,hz,e⟩
    obtain ⟨_,o,ho,hc⟩:=hr Bx e.symm
    rw [hb] at ho
    cases ho
    cases hc
   case assign=>
    rintro ll pre x W K hi hK
    obtain ⟨l',e',hs,hz⟩:=hi
    gi_wp2
    exact hK _ _ ((KeepsOthers.alloc _ _).from _) (fun i hi=>Below.heap_alloc _ _ _ (Nat.lt_of_lt_of_le (HSB.out i hi) hz)) ⟨l',e',hs.below (below_alloc (Below.refl _ _) _),by simp;omega⟩ ⟨W.heap.size,World.alloc_heap_new W _,hz,rfl⟩
   case body=>
    rintro ll pre x a' W hl hrec ⟨l',e',hs,hz⟩ ⟨Bx,hBx,hBz,rfl⟩ hlt
    have eB : W.cell? ⟨w6.heap.size + 1,0,none⟩ = some (.slice (some ⟨g,0,none⟩) l'.length cap):=hs.1.cell
    have x0 : W.cell? ⟨Bx,0,none⟩ = some (.int .i64 (rd_T56 ss (x.1 : Int)).f0):=(blk_cell hBx 0).trans rfl
    have x1 : W.cell? ⟨Bx,1,none⟩ = some (.int .i64 (rd_T56 ss (x.1 : Int)).f1):=(blk_cell hBx 1).trans rfl
    have hll : l'.length = l0.length:=by rw [e',impl_NeededPart.steps_length,impl_NeededPart.start_length]
    have w1 : wrap64 ((x.1 : Int) + 1) = (x.1 : Int) + 1:=by have:=x.2;have:=NN.out;unfold wrap64;omega
    have q0 : 0 ≤ wrap64 ((x.1 : Int) + 1):=by rw [w1];have:=NN.out;omega
    have q1 : wrap64 ((x.1 : Int) + 1) < (l'.length : Int):=by rw [w1];have:=x.2;have:=NN.out;omega
    obtain ⟨cn0,_⟩:=hs.cell (wrap64 ((x.1 : Int) + 1)) q0 q1
    have hsx:=N6.out (rd_T56 ss (x.1 : Int)) (by unfold rd_T56;rw [Int.toNat_natCast,show ss.getD x.1 z56 = ss[x.1] by simp [List.getD]];exact List.getElem_mem x.2)
    have HSX:=Aside0.mk (show (0 ≤ (rd_T56 ss (x.1 : Int)).f0 ∧ (rd_T56 ss (x.1 : Int)).f0 < (l'.length : Int)) ∧ 0 ≤ (rd_T56 ss (x.1 : Int)).f1 ∧ (rd_T56 ss (x.1 : Int)).f1 < (l'.length : Int) by have:=NN.out;omega)
    clear hsx
    obtain ⟨A,hA⟩ : ∃ A,(rd_T56 ss (x.1 : Int)).f0 = A:=⟨_,rfl⟩
    obtain ⟨B,hB⟩ : ∃ B,(rd_T56 ss (x.1 : Int)).f1 = B:=⟨_,rfl⟩
    rw [hA] at x0
    rw [hB] at x1
    have HAB:=Aside0.mk (And.intro hA hB)
    have k0 : 0 ≤ A:=by rw [← hA];exact HSX.out.1.1
    have k1 : A < (l'.length : Int):=by rw [← hA];exact HSX.out.1.2
    have k2 : 0 ≤ B:=by rw [← hB];exact HSX.out.2.1
    have k3 : B < (l'.length : Int):=by rw [← hB];exact HSX.out.2.2
    clear hA hB
    obtain ⟨ca,fa⟩:=hs.cell A k0 k1
    obtain ⟨cb,fb⟩:=hs.cell B k2 k3
    obtain ⟨b,hb⟩ : ∃ b,b = rdOf false l' (wrap64 ((x.1 : Int) + 1)):=⟨_,rfl⟩
    rw [← hb] at cn0
    have HI:=Aside0.mk w1
    have HLL:=Aside0.mk hll
    have p0 : 0 ≤ IntKind.i64.wrap ((x.1 : Int) + 1):=by rw [i64_w];exact q0
    have p1 : IntKind.i64.wrap ((x.1 : Int) + 1) < (l'.length : Int):=by rw [i64_w];exact q1
    have c2 : W.cell? ⟨g,(IntKind.i64.wrap ((x.1 : Int) + 1)).toNat,none⟩ = some (.bool b):=by rw [i64_w];exact cn0
    clear w1 hll
    have hmx : Try.prog.follows .mixedOrders = true:=by kernel_rfl
    have hms : Try.prog.follows .lateStores = true:=by kernel_rfl
    have HE:=Aside0.mk e'
    have HS3:=Aside0.mk hs
    have HBB:=Aside0.mk hb
    have HBX:=Aside0.mk hBx
    clear e' hs hb hBx
    have b0 : decide (0 ≤ wrap64 ((x.1 : Int) + 1)) = true:=decide_eq_true q0
    have b1 : decide (wrap64 ((x.1 : Int) + 1) < (l'.length : Int)) = true:=decide_eq_true q1
    have hng : ¬ Bx = g:=fun e=>by have:=Kd.R_ne HS3.out.2.1 HBX.out (by decide);exact this (by rw [e];rfl)
    have hnb : ¬ w6.heap.size + 1 = g:=fun e=>by have:=Kd.R_ne HS3.out.2.1 HS3.out.1 (by decide);exact this (by rw [e];rfl)
    cases b with
    | false=>
     gi_wp2
     exact ⟨(KeepsOthers.refl W).from _,fun i hi=>rfl,l',by rw [List.map_append,List.foldl_append,← HE.out];show _ = impl_NeededPart.step ss l' x.1;unfold impl_NeededPart.step;rw [← HI.out,← HBB.out,if_neg (by decide)],HS3.out,hz⟩
    | true=>
     obtain ⟨cs,fs⟩:=(HS3.out.set A).cell B k2 (by rw [List.length_set];exact k3)
     gi_wp2
     refine wpIn_region_any hmx ?_
     have hSa0 : impl_NeededPart.St w { W with drawn:=W.drawn + 1 } w6.heap.size (w6.heap.size + 1) g cap l':=HS3.out.below (below_drew1 (Below.refl _ _))
     have hBa0 : ({ W with drawn:=W.drawn + 1 } : World).heap[Bx]? = W.heap[Bx]?:=rfl
     have hKa0 : KeepsOthers W { W with drawn:=W.drawn + 1 }:=KeepsOthers.drew W
     have hHa0 : ({ W with drawn:=W.drawn + 1 } : World).heap = W.heap:=rfl
     obtain ⟨Wa,hWa⟩ : ∃ Wa,({ W with drawn:=W.drawn + 1 } : World) = Wa:=⟨_,rfl⟩
     rw [hWa] at hSa0 hBa0 hKa0 hHa0 ⊢
     have hbx : Wa.heap[Bx]? = some (.cells #[.int .i64 A,.int .i64 B] 56 (0,0)):=by rw [hBa0,HBX.out,HAB.out.1,HAB.out.2]
     have HSA:=Aside0.mk hSa0
     have HKA:=Aside0.mk hKa0
     have HHA:=Aside0.mk hHa0
     clear hWa hSa0 hBa0 hKa0 hHa0
     have hfive : ∀ w',(w' = Wa ∨ w' = Wa.setCell ⟨g,A.toNat,none⟩ (.bool true) ∨ w' = (Wa.setCell ⟨g,A.toNat,none⟩ (.bool true)).setCell ⟨g,B.toNat,none⟩ (.bool true)) →
       w'.cell? ⟨w6.heap.size + 1,0,none⟩ = some (.slice (some ⟨g,0,none⟩) l'.length cap) ∧ w'.cell? ⟨Bx,0,none⟩ = some (.int .i64 A) ∧ w'.cell? ⟨Bx,1,none⟩ = some (.int .i64 B) ∧
       (∃ v,w'.cell? ⟨g,A.toNat,none⟩ = some v ∧ w'.frozen? ⟨g,A.toNat,none⟩ = false) ∧ (∃ v,w'.cell? ⟨g,B.toNat,none⟩ = some v ∧ w'.frozen? ⟨g,B.toNat,none⟩ = false):=by
      have one : ∀ (W' : World) (m : List Bool),m.length = l'.length → impl_NeededPart.St w W' w6.heap.size (w6.heap.size + 1) g cap m → W'.heap[Bx]? = some (.cells #[.int .i64 A,.int .i64 B] 56 (0,0)) →
        W'.cell? ⟨w6.heap.size + 1,0,none⟩ = some (.slice (some ⟨g,0,none⟩) l'.length cap) ∧ W'.cell? ⟨Bx,0,none⟩ = some (.int .i64 A) ∧ W'.cell? ⟨Bx,1,none⟩ = some (.int .i64 B) ∧
        (∃ v,W'.cell? ⟨g,A.toNat,none⟩ = some v ∧ W'.frozen? ⟨g,A.toNat,none⟩ = false) ∧ (∃ v,W'.cell? ⟨g,B.toNat,none⟩ = some v ∧ W'.frozen? ⟨g,B.toNat,none⟩ = false):=fun W' m hm hs hb=>by
       have h1:=hs.1.cell
       rw [hm] at h1
       exact ⟨h1,(blk_cell hb 0).trans rfl,(blk_cell hb 1).trans rfl,⟨_,hs.cell A k0 (by omega)⟩,⟨_,hs.cell B k2 (by omega)⟩⟩
      have b1:=(Below.heap_setCell Wa ⟨g,A.toNat,none⟩ (.bool true) Bx hng).trans hbx
      rintro w' (rfl|rfl|rfl)
      ·exact one _ _ rfl HSA.out hbx
      ·exact one _ _ (by simp) (HSA.out.set A) b1
      ·exact one _ _ (by simp) ((HSA.out.set A).set B) ((Below.heap_setCell _ ⟨g,B.toNat,none⟩ (.bool true) Bx hng).trans b1)
     clear cs fs hbx
     refine wpAnyIn_inv (I:=impl_NeededPart.RI Wa g (w6.heap.size + 1) Bx l'.length cap A B) ?rdone ?rstep _ _ _ _ ?rinit (by decide)
     case rinit=>exact ⟨⟨rfl,rfl,rfl,rfl⟩,⟨fun h=>(by cases h),fun h=>(by cases h),fun h=>(by cases h),fun h=>(by cases h),fun h=>(by cases h),fun h=>(by cases h),fun h=>(by cases h),fun h=>(by cases h)⟩,.inl ⟨rfl,rfl,rfl⟩⟩
     case rdone=>
      intro L a w' hI hr
      have hall:=ready_nil_all (show L.size = 10 from hI.1.1) (by kernel_rfl) hr
      have h9:=hall 9 (by decide)
      have hw : w' = (Wa.setCell ⟨g,A.toNat,none⟩ (.bool true)).setCell ⟨g,B.toNat,none⟩ (.bool true):=by
       rcases hI.2.2 with h|h|h
       ·rw [h.2.2] at h9;cases h9
       ·rw [h.2.2] at h9;cases h9
       ·exact h.1
      subst hw
      show _ ∧ _ ∧ _
      refine ⟨((HKA.out.trans (KeepsOthers.setCell _ _ _)).trans (KeepsOthers.setCell _ _ _)).from _,fun i hi=>?_,(l'.set A.toNat true).set B.toNat true,?_,(HSA.out.set A).set B,?_⟩
      ·have hne:=HSG.out i hi
       exact (Below.heap_setCell _ ⟨g,B.toNat,none⟩ _ i hne).trans ((Below.heap_setCell _ ⟨g,A.toNat,none⟩ _ i hne).trans (by rw [HHA.out]))
      ·rw [List.map_append,List.foldl_append,← HE.out]
       show _ = impl_NeededPart.step ss l' x.1
       unfold impl_NeededPart.step
       rw [← HI.out,← HBB.out,if_pos rfl,HAB.out.1,HAB.out.2]
      ·have : ((Wa.setCell ⟨g,A.toNat,none⟩ (.bool true)).setCell ⟨g,B.toNat,none⟩ (.bool true)).heap.size = W.heap.size:=by simp [World.setCell,HHA.out]
       omega
     case rstep=>
      intro L a w' hI i hi
      obtain ⟨hun,oj,hoj,hall⟩:=mem_ready.1 hi
      obtain ⟨⟨z1,z2,t3,t7⟩,⟨v0,v1,v2,v3,v4,v5,v6,v8⟩,hw⟩:=hI
      have hi10 : i < 10:=(Array.getElem?_eq_some_iff.1 hoj).1
      obtain rfl|rfl|rfl|rfl|rfl|rfl|rfl|rfl|rfl|rfl : i = 0 ∨ i = 1 ∨ i = 2 ∨ i = 3 ∨ i = 4 ∨ i = 5 ∨ i = 6 ∨ i = 7 ∨ i = 8 ∨ i = 9:=by omega
      ·obtain rfl:=Option.some.inj hoj
       clear hoj hall hi
       obtain ⟨c1,c2,c3,⟨ua,c4,c5⟩,⟨uc,c6,c7⟩⟩:=hfive _ (hw.imp And.left (Or.imp And.left And.left))
       have HW:=Aside0.mk hw;clear hw
       have AV:=Aside0.mk (And.intro v0 (And.intro v1 (And.intro v2 (And.intro v3 (And.intro v4 (And.intro v5 (And.intro v6 v8)))))))
       clear v0 v1 v2 v3 v4 v5 v6 v8
       unfold Go.wpOpIn
       go_simp
       obtain ⟨v0,v1,v2,v3,v4,v5,v6,v8⟩:=AV.out
       have hw:=HW.out
       exact ⟨⟨by rw [Array.size_setIfInBounds];exact z1,by rw [Array.size_setIfInBounds];exact z2,(gd_ne (by decide)).trans t3,(gd_ne (by decide)).trans t7⟩,⟨fun _=>gd_eq (by omega),fun h=>(gd_ne (by decide)).trans (v1 ((gd_ne (by decide)).symm.trans h)),fun h=>(gd_ne (by decide)).trans (v2 ((gd_ne (by decide)).symm.trans h)),fun h=>(gd_ne (by decide)).trans (v3 ((gd_ne (by decide)).symm.trans h)),fun h=>(gd_ne (by decide)).trans (v4 ((gd_ne (by decide)).symm.trans h)),fun h=>(gd_ne (by decide)).trans (v5 ((gd_ne (by decide)).symm.trans h)),fun h=>(gd_ne (by decide)).trans (v6 ((gd_ne (by decide)).symm.trans h)),fun h=>(gd_ne (by decide)).trans (v8 ((gd_ne (by decide)).symm.trans h))⟩,hw.imp (fun h=>⟨h.1,(gd_ne (by decide)).trans h.2.1,(gd_ne (by decide)).trans h.2.2⟩) (Or.imp (fun h=>⟨h.1,(gd_ne (by decide)).trans h.2.1,(gd_ne (by decide)).trans h.2.2⟩) (fun h=>⟨h.1,(gd_ne (by decide)).trans h.2.1,(gd_ne (by decide)).trans h.2.2⟩))⟩
      ·obtain rfl:=Option.some.inj hoj
       clear hoj hall hi
       obtain ⟨c1,c2,c3,⟨ua,c4,c5⟩,⟨uc,c6,c7⟩⟩:=hfive _ (hw.imp And.left (Or.imp And.left And.left))
       have HW:=Aside0.mk hw;clear hw
       have AV:=Aside0.mk (And.intro v0 (And.intro v1 (And.intro v2 (And.intro v3 (And.intro v4 (And.intro v5 (And.intro v6 v8)))))))
       clear v0 v1 v2 v3 v4 v5 v6 v8
       unfold Go.wpOpIn
       go_simp
       obtain ⟨v0,v1,v2,v3,v4,v5,v6,v8⟩:=AV.out
       have hw:=HW.out
       exact ⟨⟨by rw [Array.size_setIfInBounds];exact z1,by rw [Array.size_setIfInBounds];exact z2,(gd_ne (by decide)).trans t3,(gd_ne (by decide)).trans t7⟩,⟨fun h=>(gd_ne (by decide)).trans (v0 ((gd_ne (by decide)).symm.trans h)),fun _=>gd_eq (by omega),fun h=>(gd_ne (by decide)).trans (v2 ((gd_ne (by decide)).symm.trans h)),fun h=>(gd_ne (by decide)).trans (v3 ((gd_ne (by decide)).symm.trans h)),fun h=>(gd_ne (by decide)).trans (v4 ((gd_ne (by decide)).symm.trans h)),fun h=>(gd_ne (by decide)).trans (v5 ((gd_ne (by decide)).symm.trans h)),fun h=>(gd_ne (by decide)).trans (v6 ((gd_ne (by decide)).symm.trans h)),fun h=>(gd_ne (by decide)).trans (v8 ((gd_ne (by decide)).symm.trans h))⟩,hw.imp (fun h=>⟨h.1,(gd_ne (by decide)).trans h.2.1,(gd_ne (by decide)).trans h.2.2⟩) (Or.imp (fun h=>⟨h.1,(gd_ne (by decide)).trans h.2.1,(gd_ne (by decide)).trans h.2.2⟩) (fun h=>⟨h.1,(gd_ne (by decide)).trans h.2.1,(gd_ne (by decide)).trans h.2.2⟩))⟩
      ·obtain rfl:=Option.some.inj hoj
       have d1:=hall { on:=1,ground:=.data } (by simp) rfl
       have x1:=v1 d1
       clear hoj hall hi
       obtain ⟨c1,c2,c3,⟨ua,c4,c5⟩,⟨uc,c6,c7⟩⟩:=hfive _ (hw.imp And.left (Or.imp And.left And.left))
       have HW:=Aside0.mk hw;clear hw
       have AV:=Aside0.mk (And.intro v0 (And.intro v1 (And.intro v2 (And.intro v3 (And.intro v4 (And.intro v5 (And.intro v6 v8)))))))
       clear v0 v1 v2 v3 v4 v5 v6 v8
       unfold Go.wpOpIn
       go_simp
       obtain ⟨v0,v1,v2,v3,v4,v5,v6,v8⟩:=AV.out
       have hw:=HW.out
       exact ⟨⟨by rw [Array.size_setIfInBounds];exact z1,by rw [Array.size_setIfInBounds];exact z2,(gd_ne (by decide)).trans t3,(gd_ne (by decide)).trans t7⟩,⟨fun h=>(gd_ne (by decide)).trans (v0 ((gd_ne (by decide)).symm.trans h)),fun h=>(gd_ne (by decide)).trans (v1 ((gd_ne (by decide)).symm.trans h)),fun _=>gd_eq (by omega),fun h=>(gd_ne (by decide)).trans (v3 ((gd_ne (by decide)).symm.trans h)),fun h=>(gd_ne (by decide)).trans (v4 ((gd_ne (by decide)).symm.trans h)),fun h=>(gd_ne (by decide)).trans (v5 ((gd_ne (by decide)).symm.trans h)),fun h=>(gd_ne (by decide)).trans (v6 ((gd_ne (by decide)).symm.trans h)),fun h=>(gd_ne (by decide)).trans (v8 ((gd_ne (by decide)).symm.trans h))⟩,hw.imp (fun h=>⟨h.1,(gd_ne (by decide)).trans h.2.1,(gd_ne (by decide)).trans h.2.2⟩) (Or.imp (fun h=>⟨h.1,(gd_ne (by decide)).trans h.2.1,(gd_ne (by decide)).trans h.2.2⟩) (fun h=>⟨h.1,(gd_ne (by decide)).trans h.2.1,(gd_ne (by decide)).trans h.2.2⟩))⟩
      ·obtain rfl:=Option.some.inj hoj
       clear hoj hall hi
       obtain ⟨c1,c2,c3,⟨ua,c4,c5⟩,⟨uc,c6,c7⟩⟩:=hfive _ (hw.imp And.left (Or.imp And.left And.left))
       have HW:=Aside0.mk hw;clear hw
       have AV:=Aside0.mk (And.intro v0 (And.intro v1 (And.intro v2 (And.intro v3 (And.intro v4 (And.intro v5 (And.intro v6 v8)))))))
       clear v0 v1 v2 v3 v4 v5 v6 v8
       unfold Go.wpOpIn
       go_simp
       obtain ⟨v0,v1,v2,v3,v4,v5,v6,v8⟩:=AV.out
       have hw:=HW.out
       exact ⟨⟨by rw [Array.size_setIfInBounds];exact z1,by rw [Array.size_setIfInBounds];exact z2,(gd_ne (by decide)).trans t3,(gd_ne (by decide)).trans t7⟩,⟨fun h=>(gd_ne (by decide)).trans (v0 ((gd_ne (by decide)).symm.trans h)),fun h=>(gd_ne (by decide)).trans (v1 ((gd_ne (by decide)).symm.trans h)),fun h=>(gd_ne (by decide)).trans (v2 ((gd_ne (by decide)).symm.trans h)),fun _=>gd_eq (by omega),fun h=>(gd_ne (by decide)).trans (v4 ((gd_ne (by decide)).symm.trans h)),fun h=>(gd_ne (by decide)).trans (v5 ((gd_ne (by decide)).symm.trans h)),fun h=>(gd_ne (by decide)).trans (v6 ((gd_ne (by decide)).symm.trans h)),fun h=>(gd_ne (by decide)).trans (v8 ((gd_ne (by decide)).symm.trans h))⟩,hw.imp (fun h=>⟨h.1,(gd_ne (by decide)).trans h.2.1,(gd_ne (by decide)).trans h.2.2⟩) (Or.imp (fun h=>⟨h.1,(gd_ne (by decide)).trans h.2.1,(gd_ne (by decide)).trans h.2.2⟩) (fun h=>⟨h.1,(gd_ne (by decide)).trans h.2.1,(gd_ne (by decide)).trans h.2.2⟩))⟩
      ·obtain rfl:=Option.some.inj hoj
       clear hoj hall hi
       obtain ⟨c1,c2,c3,⟨ua,c4,c5⟩,⟨uc,c6,c7⟩⟩:=hfive _ (hw.imp And.left (Or.imp And.left And.left))
       have HW:=Aside0.mk hw;clear hw
       have AV:=Aside0.mk (And.intro v0 (And.intro v1 (And.intro v2 (And.intro v3 (And.intro v4 (And.intro v5 (And.intro v6 v8)))))))
       clear v0 v1 v2 v3 v4 v5 v6 v8
       unfold Go.wpOpIn
       go_simp
       obtain ⟨v0,v1,v2,v3,v4,v5,v6,v8⟩:=AV.out
       have hw:=HW.out
       exact ⟨⟨by rw [Array.size_setIfInBounds];exact z1,by rw [Array.size_setIfInBounds];exact z2,(gd_ne (by decide)).trans t3,(gd_ne (by decide)).trans t7⟩,⟨fun h=>(gd_ne (by decide)).trans (v0 ((gd_ne (by decide)).symm.trans h)),fun h=>(gd_ne (by decide)).trans (v1 ((gd_ne (by decide)).symm.trans h)),fun h=>(gd_ne (by decide)).trans (v2 ((gd_ne (by decide)).symm.trans h)),fun h=>(gd_ne (by decide)).trans (v3 ((gd_ne (by decide)).symm.trans h)),fun _=>gd_eq (by omega),fun h=>(gd_ne (by decide)).trans (v5 ((gd_ne (by decide)).symm.trans h)),fun h=>(gd_ne (by decide)).trans (v6 ((gd_ne (by decide)).symm.trans h)),fun h=>(gd_ne (by decide)).trans (v8 ((gd_ne (by decide)).symm.trans h))⟩,hw.imp (fun h=>⟨h.1,(gd_ne (by decide)).trans h.2.1,(gd_ne (by decide)).trans h.2.2⟩) (Or.imp (fun h=>⟨h.1,(gd_ne (by decide)).trans h.2.1,(gd_ne (by decide)).trans h.2.2⟩) (fun h=>⟨h.1,(gd_ne (by decide)).trans h.2.1,(gd_ne (by decide)).trans h.2.2⟩))⟩
      ·obtain rfl:=Option.some.inj hoj
       have d4:=hall { on:=4,ground:=.data } (by simp) rfl
       have x4:=v4 d4
       clear hoj hall hi
       obtain ⟨c1,c2,c3,⟨ua,c4,c5⟩,⟨uc,c6,c7⟩⟩:=hfive _ (hw.imp And.left (Or.imp And.left And.left))
       have HW:=Aside0.mk hw;clear hw
       have AV:=Aside0.mk (And.intro v0 (And.intro v1 (And.intro v2 (And.intro v3 (And.intro v4 (And.intro v5 (And.intro v6 v8)))))))
       clear v0 v1 v2 v3 v4 v5 v6 v8
       unfold Go.wpOpIn
       go_simp
       obtain ⟨v0,v1,v2,v3,v4,v5,v6,v8⟩:=AV.out
       have hw:=HW.out
       exact ⟨⟨by rw [Array.size_setIfInBounds];exact z1,by rw [Array.size_setIfInBounds];exact z2,(gd_ne (by decide)).trans t3,(gd_ne (by decide)).trans t7⟩,⟨fun h=>(gd_ne (by decide)).trans (v0 ((gd_ne (by decide)).symm.trans h)),fun h=>(gd_ne (by decide)).trans (v1 ((gd_ne (by decide)).symm.trans h)),fun h=>(gd_ne (by decide)).trans (v2 ((gd_ne (by decide)).symm.trans h)),fun h=>(gd_ne (by decide)).trans (v3 ((gd_ne (by decide)).symm.trans h)),fun h=>(gd_ne (by decide)).trans (v4 ((gd_ne (by decide)).symm.trans h)),fun _=>gd_eq (by omega),fun h=>(gd_ne (by decide)).trans (v6 ((gd_ne (by decide)).symm.trans h)),fun h=>(gd_ne (by decide)).trans (v8 ((gd_ne (by decide)).symm.trans h))⟩,hw.imp (fun h=>⟨h.1,(gd_ne (by decide)).trans h.2.1,(gd_ne (by decide)).trans h.2.2⟩) (Or.imp (fun h=>⟨h.1,(gd_ne (by decide)).trans h.2.1,(gd_ne (by decide)).trans h.2.2⟩) (fun h=>⟨h.1,(gd_ne (by decide)).trans h.2.1,(gd_ne (by decide)).trans h.2.2⟩))⟩
      ·obtain rfl:=Option.some.inj hoj
       have d0:=hall { on:=0,ground:=.data } (by simp) rfl
       have d2:=hall { on:=2,ground:=.data } (by simp) rfl
       have x0:=v0 d0
       have x2:=v2 d2
       clear hoj hall hi
       obtain ⟨c1,c2,c3,⟨ua,c4,c5⟩,⟨uc,c6,c7⟩⟩:=hfive _ (hw.imp And.left (Or.imp And.left And.left))
       have HW:=Aside0.mk hw;clear hw
       have AV:=Aside0.mk (And.intro v0 (And.intro v1 (And.intro v2 (And.intro v3 (And.intro v4 (And.intro v5 (And.intro v6 v8)))))))
       clear v0 v1 v2 v3 v4 v5 v6 v8
       unfold Go.wpOpIn
       go_simp
       obtain ⟨v0,v1,v2,v3,v4,v5,v6,v8⟩:=AV.out
       have hw:=HW.out
       exact ⟨⟨by rw [Array.size_setIfInBounds];exact z1,by rw [Array.size_setIfInBounds];exact z2,(gd_ne (by decide)).trans t3,(gd_ne (by decide)).trans t7⟩,⟨fun h=>(gd_ne (by decide)).trans (v0 ((gd_ne (by decide)).symm.trans h)),fun h=>(gd_ne (by decide)).trans (v1 ((gd_ne (by decide)).symm.trans h)),fun h=>(gd_ne (by decide)).trans (v2 ((gd_ne (by decide)).symm.trans h)),fun h=>(gd_ne (by decide)).trans (v3 ((gd_ne (by decide)).symm.trans h)),fun h=>(gd_ne (by decide)).trans (v4 ((gd_ne (by decide)).symm.trans h)),fun h=>(gd_ne (by decide)).trans (v5 ((gd_ne (by decide)).symm.trans h)),fun _=>gd_eq (by omega),fun h=>(gd_ne (by decide)).trans (v8 ((gd_ne (by decide)).symm.trans h))⟩,hw.imp (fun h=>⟨h.1,(gd_ne (by decide)).trans h.2.1,(gd_ne (by decide)).trans h.2.2⟩) (Or.imp (fun h=>⟨h.1,(gd_ne (by decide)).trans h.2.1,(gd_ne (by decide)).trans h.2.2⟩) (fun h=>⟨h.1,(gd_ne (by decide)).trans h.2.1,(gd_ne (by decide)).trans h.2.2⟩))⟩
      ·obtain rfl:=Option.some.inj hoj
       have d6:=hall { on:=6,ground:=.data } (by simp) rfl
       have x6:=v6 d6
       clear hoj hall hi
       have hw' : w' = Wa:=by rcases hw with h|h|h <;> first|exact h.1|(rw [gd_any (by omega) (d':=false),h.2.1] at hun;cases hun)
       have h9 : L.getD 9 false = false:=by rcases hw with h|h|h <;> first|exact h.2.2|(rw [gd_any (by omega) (d':=false),h.2.1] at hun;cases hun)
       clear hw;subst hw'
       obtain ⟨c1,c2,c3,⟨ua,c4,c5⟩,⟨uc,c6,c7⟩⟩:=hfive _ (.inl rfl)
       have AV:=Aside0.mk (And.intro v0 (And.intro v1 (And.intro v2 (And.intro v3 (And.intro v4 (And.intro v5 (And.intro v6 v8)))))))
       clear v0 v1 v2 v3 v4 v5 v6 v8
       unfold Go.wpOpIn
       go_simp
       obtain ⟨v0,v1,v2,v3,v4,v5,v6,v8⟩:=AV.out
       exact ⟨⟨by rw [Array.size_setIfInBounds];exact z1,z2,t3,t7⟩,⟨fun h=>v0 ((gd_ne (by decide)).symm.trans h),fun h=>v1 ((gd_ne (by decide)).symm.trans h),fun h=>v2 ((gd_ne (by decide)).symm.trans h),fun h=>v3 ((gd_ne (by decide)).symm.trans h),fun h=>v4 ((gd_ne (by decide)).symm.trans h),fun h=>v5 ((gd_ne (by decide)).symm.trans h),fun h=>v6 ((gd_ne (by decide)).symm.trans h),fun h=>v8 ((gd_ne (by decide)).symm.trans h)⟩,.inr (.inl ⟨rfl,gd_eq (by omega),(gd_ne (by decide)).trans h9⟩)⟩
      ·obtain rfl:=Option.some.inj hoj
       have d3:=hall { on:=3,ground:=.data } (by simp) rfl
       have d5:=hall { on:=5,ground:=.data } (by simp) rfl
       have x3:=v3 d3
       have x5:=v5 d5
       clear hoj hall hi
       obtain ⟨c1,c2,c3,⟨ua,c4,c5⟩,⟨uc,c6,c7⟩⟩:=hfive _ (hw.imp And.left (Or.imp And.left And.left))
       have HW:=Aside0.mk hw;clear hw
       have AV:=Aside0.mk (And.intro v0 (And.intro v1 (And.intro v2 (And.intro v3 (And.intro v4 (And.intro v5 (And.intro v6 v8)))))))
       clear v0 v1 v2 v3 v4 v5 v6 v8
       unfold Go.wpOpIn
       go_simp
       obtain ⟨v0,v1,v2,v3,v4,v5,v6,v8⟩:=AV.out
       have hw:=HW.out
       exact ⟨⟨by rw [Array.size_setIfInBounds];exact z1,by rw [Array.size_setIfInBounds];exact z2,(gd_ne (by decide)).trans t3,(gd_ne (by decide)).trans t7⟩,⟨fun h=>(gd_ne (by decide)).trans (v0 ((gd_ne (by decide)).symm.trans h)),fun h=>(gd_ne (by decide)).trans (v1 ((gd_ne (by decide)).symm.trans h)),fun h=>(gd_ne (by decide)).trans (v2 ((gd_ne (by decide)).symm.trans h)),fun h=>(gd_ne (by decide)).trans (v3 ((gd_ne (by decide)).symm.trans h)),fun h=>(gd_ne (by decide)).trans (v4 ((gd_ne (by decide)).symm.trans h)),fun h=>(gd_ne (by decide)).trans (v5 ((gd_ne (by decide)).symm.trans h)),fun h=>(gd_ne (by decide)).trans (v6 ((gd_ne (by decide)).symm.trans h)),fun _=>gd_eq (by omega)⟩,hw.imp (fun h=>⟨h.1,(gd_ne (by decide)).trans h.2.1,(gd_ne (by decide)).trans h.2.2⟩) (Or.imp (fun h=>⟨h.1,(gd_ne (by decide)).trans h.2.1,(gd_ne (by decide)).trans h.2.2⟩) (fun h=>⟨h.1,(gd_ne (by decide)).trans h.2.1,(gd_ne (by decide)).trans h.2.2⟩))⟩
      ·obtain rfl:=Option.some.inj hoj
       have d8:=hall { on:=8,ground:=.data } (by simp) rfl
       have d7:=hall { on:=7,ground:=.chain } (by simp) rfl
       have x8:=v8 d8
       clear hoj hall hi
       have hw' : w' = Wa.setCell ⟨g,A.toNat,none⟩ (.bool true):=by rcases hw with h|h|h <;> first|exact h.1|(exfalso;rw [h.2.1] at d7;cases d7;done)|(exfalso;rw [gd_any (by omega) (d':=false),h.2.2] at hun;cases hun;done)
       clear hw;subst hw'
       obtain ⟨c1,c2,c3,⟨ua,c4,c5⟩,⟨uc,c6,c7⟩⟩:=hfive _ (.inr (.inl rfl))
       have AV:=Aside0.mk (And.intro v0 (And.intro v1 (And.intro v2 (And.intro v3 (And.intro v4 (And.intro v5 (And.intro v6 v8)))))))
       clear v0 v1 v2 v3 v4 v5 v6 v8
       unfold Go.wpOpIn
       go_simp
       obtain ⟨v0,v1,v2,v3,v4,v5,v6,v8⟩:=AV.out
       exact ⟨⟨by rw [Array.size_setIfInBounds];exact z1,z2,t3,t7⟩,⟨fun h=>v0 ((gd_ne (by decide)).symm.trans h),fun h=>v1 ((gd_ne (by decide)).symm.trans h),fun h=>v2 ((gd_ne (by decide)).symm.trans h),fun h=>v3 ((gd_ne (by decide)).symm.trans h),fun h=>v4 ((gd_ne (by decide)).symm.trans h),fun h=>v5 ((gd_ne (by decide)).symm.trans h),fun h=>v6 ((gd_ne (by decide)).symm.trans h),fun h=>v8 ((gd_ne (by decide)).symm.trans h)⟩,.inr (.inr ⟨rfl,(gd_ne (by decide)).trans d7,gd_eq (by omega)⟩)⟩
   case done=>
    rintro D xs W hD hxs ⟨l',rfl,hs,_⟩ hK
    rw [hxs] at hs
    obtain ⟨mk,hmk⟩ : ∃ mk,(down ss.length ss.length).foldl (impl_NeededPart.step ss) (impl_NeededPart.start l0.length) = mk:=⟨_,rfl⟩
    rw [hmk] at hs
    have hml : mk.length = l0.length:=by rw [← hmk,impl_NeededPart.steps_length,impl_NeededPart.start_length]
    have HRM:=Aside0.mk (show impl_NeededPart.upto l0 mk l0.length = r1 ∧ true = r2 by have:=HRES.out;unfold impl_NeededPart.marks at this;rw [hmk] at this;exact this)
    have HML:=Aside0.mk hml
    have HSQ:=Aside0.mk hs
    have HKD:=Aside0.mk hK
    clear hmk hml hs hK
    go_wp2
    go_loopg [5,42] l0.length (fun gg s5 s42 wq=>∃ (kk : Nat) (v : Value),Aside0 (kk ≤ l0.length ∧ l0.length - kk ≤ gg ∧ impl_NeededPart.S2 w wq (w6.heap.size + 1) g cap D mk v (impl_NeededPart.upto l0 mk kk)) ∧ v = s5 ∧ s42 = .int .i64 kk)
    case atStart=>exact ⟨0,_,⟨⟨Nat.zero_le _,by omega,impl_NeededPart.S2.start HSQ.out HKD.out (by omega)⟩⟩,rfl,rfl⟩
    case round=>
     obtain ⟨kk,v,HK,rfl,rfl⟩:=hrel
     obtain ⟨h1,h2,hS⟩:=HK.out
     clear HK
     have eB : wr.cell? ⟨w6.heap.size + 1,0,none⟩ = some (.slice (some ⟨g,0,none⟩) mk.length cap):=hS.1.cell
     rw [HML.out] at eB
     by_cases hlt : kk < l0.length
     ·have hltz : (kk : Int) < (l0.length : Int):=by omega
      obtain ⟨ad,ea,hx⟩:=Kd.at_int HR.out (kk : Int) (by omega) hltz
      subst ea
      rw [Int.toNat_natCast] at hx
      replace hx:=pw_cell_below hS.2.2.1 hx
      obtain ⟨cb,_⟩:=Kd.R_celln false hS.2.1 (kk : Int) (by omega) (by rw [HML.out];exact hltz)
      rw [Int.toNat_natCast] at cb
      have hus:=impl_NeededPart.upto_succ l0 mk kk
      have hul:=impl_NeededPart.upto_length l0 mk kk
      have w1:=impl_NeededPart.next kk l0.length hlt NN.out.2.1
      generalize rd l0 (kk : Int) = x at *
      generalize rdOf false mk (kk : Int) = b at *
      generalize impl_NeededPart.upto l0 mk kk = xs at *
      have HU:=Aside0.mk hus
      have HL:=Aside0.mk (impl_NeededPart.eight xs.length kk l0.length hul hlt NN.out.2.1)
      have H2:=Aside0.mk h2
      have HS2:=Aside0.mk hS
      have HW1:=Aside0.mk w1
      clear hus hul h2 hS w1
      cases b with
      | false=>
       go_wp2
       go_roundg (l0.length - (kk + 1))
       case measure=>have:=H2.out;omega
       case rel=>exact ⟨kk + 1,_,⟨⟨by omega,by omega,by rw [HU.out,if_neg (by decide),List.append_nil];exact HS2.out⟩⟩,rfl,by rw [HW1.out]⟩
      | true=>
       have HU2:=Aside0.mk (show impl_NeededPart.upto l0 mk (kk + 1) = xs ++ [x] by rw [HU.out,if_pos rfl])
       go_wp2_with ((with_reducible refine gate_builtin (b:=.append) (xs:=#[.tmp 51,.tmp 53]) rfl ?_);at_builtin;refine Kd.R_append (Kd.int .i64) (w0:=w) w.heap.size rfl (.tmp 51) (.tmp 53) 24 3 (.int .i64 0) 8 rfl Try.underlying24 info3 rfl (by decide) (by decide) v xs x [.int .i64 x] (fun k=>k ≠ g ∧ k ≠ w6.heap.size + 1 ∧ k ≠ D) (fun _=>False) rfl rfl ?aP (fun _ hk=>hk.elim) ?aF ?aO ?aB ?aS ?aL ?_;(case aP=>exact rfl);(case aF=>exact HS2.out.fresh);(case aO=>exact HS2.out.2.2.2.2);(case aB=>exact HS2.out.2.2.1);(case aS=>exact HS2.out.2.2.1.size);(case aL=>exact HL.out);intro v6 wz ho hb hg hat;have HS3:=Aside0.mk (impl_NeededPart.S2.app HS2.out ho hb hg);clear ho hb hg hat)
       go_roundg (l0.length - (kk + 1))
       case measure=>have:=H2.out;omega
       case rel=>exact ⟨kk + 1,_,⟨⟨by omega,by omega,by rw [HU2.out];exact HS3.out⟩⟩,rfl,by rw [HW1.out]⟩
     ·have hltz : ¬ (kk : Int) < (l0.length : Int):=by omega
      obtain rfl : kk = l0.length:=by omega
      have HS2:=Aside0.mk hS
      clear h2 hS
      go_wp2
      refine ⟨by simp,.inl ⟨_,_,rfl,run_takeDeferred HS2.out.2.2.2.1,?_⟩⟩
      refine ⟨_,results_tmp2 rfl _ _ _,?_⟩
      have hgr:=grownBy_putObj' wr D (.deferred none)
      obtain ⟨e1,rfl⟩:=HRM.out
      refine ⟨_,rfl,?_,HS2.out.2.2.1.grown hgr HS2.out.2.2.1.size (fun k e=>by cases e;omega)⟩
      rw [← e1]
      exact Kd.R_mono (Kd.R_grown HS2.out.2.2.2.2 hgr (fun k hk e=>hk.2.2 (by cases e;rfl))) (fun _ _=>trivial)
   case stop=>
    rintro D c pre W _ _ h _
    exact h.elim
  ·rw [if_neg hok] at h;cases h
end
/-! ### spec_l1In: function 66 -/
def spec_l1In.f (a0 : Int) (a1 : Int) (a2 : Int) : Option (Bool):=if a0 ≥ a1 then (some (decide (a0 ≤ a2))) else (some false)
set_option maxHeartbeats 8000000 in
set_option maxRecDepth 100000 in
theorem spec_l1In.calls (a0 : Int) (a1 : Int) (a2 : Int) (r : Bool) (w : World) (h : spec_l1In.f a0 a1 a2 = some r) :
  Calls Try.prog 66 #[.int .i64 a0,.int .i64 a1,.int .i64 a2] w fun e w'=>e = .returned (.bool r) ∧ Drawn0 w w':=by
 have H : (if a0 ≥ a1 then (some (decide (a0 ≤ a2))) else (some false)) = some r:=h
 clear h
 by_cases c4 : a0 ≥ a1
 ·rw [if_pos c4] at H
  have c4b0 : decide (a1 ≤ a0) = true:=decide_eq_true c4
  clear c4
  obtain rfl:=Option.some.inj H
  go_enter Try.func66,Try.ntmps66
  go_wp2
  go_ret
  exact ⟨by first|rfl|(simp;done)|(simp [*];done),by repeat (first|exact Drawn0.refl _|apply Drawn0.step)⟩
 ·rw [if_neg c4] at H
  have c4b0 : decide (a1 ≤ a0) = false:=decide_eq_false c4
  clear c4
  obtain rfl:=Option.some.inj H
  go_enter Try.func66,Try.ntmps66
  go_wp2
  go_ret
  exact ⟨by first|rfl|(simp;done)|(simp [*];done),by repeat (first|exact Drawn0.refl _|apply Drawn0.step)⟩
/-! ### spec_l1Rising: function 67 -/
def spec_l1Rising.l0 : Nat → List Int → Int → Int → List Int → Int → Int → Option (Bool)
 | 0,_,_,_,_,_,_=>none
 | k + 1,x0,x1,x2,x9,x10,x11=>if x11 < x10 then (if 0 ≤ x11 then (if x11 < (x9.length : Int) then ((spec_l1In.f (rd x9 x11) x1 x2).bind fun t248=>(if t248 = true then (if x11 > 0 then (if 0 ≤ (wrap64 (x11 - 1)) then (if (wrap64 (x11 - 1)) < (x0.length : Int) then (if (rd x0 (wrap64 (x11 - 1))) ≥ (rd x9 x11) then (some false) else (spec_l1Rising.l0 k x0 x1 x2 x9 x10 (wrap64 (x11 + 1)))) else (none)) else (none)) else (spec_l1Rising.l0 k x0 x1 x2 x9 x10 (wrap64 (x11 + 1)))) else (some false))) else (none)) else (none)) else (some true)
def spec_l1Rising.f (k : Nat) (l0 : List Int) (a1 : Int) (a2 : Int) : Option (Bool):=spec_l1Rising.l0 k l0 a1 a2 l0 (l0.length : Int) 0
theorem spec_l1Rising.mono_l : ∀ k,(∀ y0 y1 y2 y3 y4 y5,LeO (spec_l1Rising.l0 k y0 y1 y2 y3 y4 y5) (spec_l1Rising.l0 (k + 1) y0 y1 y2 y3 y4 y5))
 | 0=>fun _ _ _ _ _ _ r h=>by simp [spec_l1Rising.l0] at h
 | k + 1=>by
  have ih0:=spec_l1Rising.mono_l k
  ·intro y0 y1 y2 y3 y4 y5
   unfold spec_l1Rising.l0
   repeat' first
   | (with_reducible exact ih0 _ _ _ _ _ _)
   | (with_reducible exact LeO.refl _)
   | (with_reducible exact LeO.none _)
   | (with_reducible refine LeO.ite ?_ ?_)
   | (with_reducible refine LeO.bind ?_ (fun _=>?_))
   | exact ih0 _ _ _ _ _ _
   | exact LeO.none _
   | refine LeO.ite ?_ ?_
   | refine LeO.bind ?_ (fun _=>?_)
theorem spec_l1Rising.mono : ∀ a0 a1 a2 k,LeO (spec_l1Rising.f k a0 a1 a2) (spec_l1Rising.f (k + 1) a0 a1 a2):=by
 intro a0 a1 a2 k
 have ih0:=spec_l1Rising.mono_l k
 unfold spec_l1Rising.f
 repeat' first
   | (with_reducible exact ih0 _ _ _ _ _ _)
   | (with_reducible exact LeO.refl _)
   | (with_reducible exact LeO.none _)
   | (with_reducible refine LeO.ite ?_ ?_)
   | (with_reducible refine LeO.bind ?_ (fun _=>?_))
   | exact ih0 _ _ _ _ _ _
   | exact LeO.none _
   | refine LeO.ite ?_ ?_
   | refine LeO.bind ?_ (fun _=>?_)
set_option maxHeartbeats 8000000 in
set_option maxRecDepth 100000 in
theorem spec_l1Rising.calls (k : Nat) (A0 : Option Addr) (c0 : Nat) (l0 : List Int) (a1 : Int) (a2 : Int) (r : Bool) (w : World) (hr0 : Kd.C (Kd.int .i64) w A0 l0.length l0) (hc0 : l0.length ≤ c0) (h : spec_l1Rising.f k l0 a1 a2 = some r) :
  Calls Try.prog 67 #[.slice A0 l0.length c0,.int .i64 a1,.int .i64 a2] w fun e w'=>e = .returned (.bool r) ∧ Drawn0 w w':=by
 have HR0:=Aside0.mk hr0
 have HC0:=Aside0.mk hc0
 clear hr0 hc0
 have H : (spec_l1Rising.l0 k l0 a1 a2 l0 (l0.length : Int) 0) = some r:=h
 clear h
 have H':=Aside0.mk H
 clear H
 go_enter Try.func67,Try.ntmps67
 go_wp2
 go_loopg [11] k (fun kq v11 w'=>∃ (x11_1 : Int),v11 = .int .i64 x11_1 ∧ Aside0 (spec_l1Rising.l0 kq l0 a1 a2 l0 (l0.length : Int) x11_1 = some r) ∧ Aside0 (kq ≤ k) ∧ Drawn0 w w')
 case atStart=>exact ⟨(0),fz,H',⟨Nat.le_refl _⟩,by repeat (first|exact Drawn0.refl _|apply Drawn0.step)⟩
 case round=>
  clear H'
  try clear p2
  obtain ⟨x11_1,rfl,HA,HK1,⟨m1,rfl⟩⟩:=hrel
  cases gk with
  | zero=>exact absurd HA.out (by simp [spec_l1Rising.l0])
  | succ k1=>
   have H:=HA.out
   clear HA
   simp only [spec_l1Rising.l0] at H
   by_cases c4 : x11_1 < (l0.length : Int)
   ·rw [if_pos c4] at H
    have c4b0 : decide (x11_1 < (l0.length : Int)) = true:=decide_eq_true c4
    clear c4
    by_cases c5 : 0 ≤ x11_1
    ·rw [if_pos c5] at H
     have c5b0 : decide (0 ≤ x11_1) = true:=decide_eq_true c5
     clear c5
     by_cases c6 : x11_1 < (l0.length : Int)
     ·rw [if_pos c6] at H
      have c6b0 : decide (x11_1 < (l0.length : Int)) = true:=decide_eq_true c6
      clear c6
      obtain ⟨t248,A7,H⟩:=bd H
      by_cases c8 : t248 = true
      ·subst c8
       rw [if_pos rfl] at H
       by_cases c9 : x11_1 > 0
       ·rw [if_pos c9] at H
        have c9b0 : decide (0 < x11_1) = true:=decide_eq_true c9
        clear c9
        obtain ⟨ji10,hji10⟩ : ∃ j_ : Int,(wrap64 (x11_1 - 1)) = j_:=⟨_,rfl⟩
        replace H : (if 0 ≤ (ji10) then (if (ji10) < (l0.length : Int) then (if (rd l0 (ji10)) ≥ (rd l0 x11_1) then (some false) else (spec_l1Rising.l0 k1 l0 a1 a2 l0 (l0.length : Int) (wrap64 (x11_1 + 1)))) else (none)) else (none)) = some r:=by first|(rw [hji10] at H;exact H)|(simp only [hji10] at H ⊢;exact H)
        (try rw [hji10] at A7)
        have hji10w : (IntKind.i64.wrap (x11_1 - 1)) = ji10:=(i64_w _).trans hji10
        by_cases c11 : 0 ≤ (ji10)
        ·rw [if_pos c11] at H
         have c11b0 : decide (0 ≤ (ji10)) = true:=decide_eq_true c11
         clear c11
         by_cases c12 : (ji10) < (l0.length : Int)
         ·rw [if_pos c12] at H
          have c12b0 : decide ((ji10) < (l0.length : Int)) = true:=decide_eq_true c12
          clear c12
          by_cases c13 : (rd l0 (ji10)) ≥ (rd l0 x11_1)
          ·rw [if_pos c13] at H
           have c13b0 : decide ((rd l0 x11_1) ≤ (rd l0 (ji10))) = true:=decide_eq_true c13
           clear c13
           obtain rfl:=Option.some.inj H
           have p247 : 0 ≤ (x11_1 : Int):=of_decide_eq_true az
           have q247 : x11_1 < (l0.length : Int):=of_decide_eq_true az
           obtain ⟨ad247,e247,hx247_0⟩:=Kd.at_int HR0.out x11_1 p247 q247
           cases e247
           replace p247:=eq_true p247
           replace q247:=eq_true q247
           go_wp2_with (first|((with_reducible refine gate_callee (f:=66) rfl ?_);refine goesL_ (some 19) rfl rfl Try.func66 (by kernel_rfl) rfl #[.int .i64 (rd l0 x11_1),.int .i64 a1,.int .i64 a2] rfl mz ?_;(with_reducible refine (spec_l1In.calls (rd l0 x11_1) a1 a2 true _ A7.out).mono ?_);rintro e w' ⟨rfl,⟨nd,rfl⟩⟩;refine ⟨_,rfl,?_⟩;have p249 : 0 ≤ ((ji10) : Int):=of_decide_eq_true az;have q249 : (ji10) < (l0.length : Int):=of_decide_eq_true az;obtain ⟨ad249,e249,hx249_0⟩:=Kd.at_int HR0.out (ji10) p249 q249;obtain rfl : ad247 = ad249:=(by injection e249);replace p249:=eq_true p249;replace q249:=eq_true q249))
           go_ret
           exact ⟨by first|rfl|(simp;done)|(simp only [← hji10] <;> (first|rfl|simp))|(simp [*];done),by repeat (first|exact Drawn0.refl _|apply Drawn0.step)⟩
          ·rw [if_neg c13] at H
           have c13b0 : decide ((rd l0 x11_1) ≤ (rd l0 (ji10))) = false:=decide_eq_false c13
           clear c13
           have H':=Aside0.mk H
           clear H
           have p247 : 0 ≤ (x11_1 : Int):=of_decide_eq_true az
           have q247 : x11_1 < (l0.length : Int):=of_decide_eq_true az
           obtain ⟨ad247,e247,hx247_0⟩:=Kd.at_int HR0.out x11_1 p247 q247
           cases e247
           replace p247:=eq_true p247
           replace q247:=eq_true q247
           go_wp2_with (first|((with_reducible refine gate_callee (f:=66) rfl ?_);refine goesL_ (some 19) rfl rfl Try.func66 (by kernel_rfl) rfl #[.int .i64 (rd l0 x11_1),.int .i64 a1,.int .i64 a2] rfl mz ?_;(with_reducible refine (spec_l1In.calls (rd l0 x11_1) a1 a2 true _ A7.out).mono ?_);rintro e w' ⟨rfl,⟨nd,rfl⟩⟩;refine ⟨_,rfl,?_⟩;have p249 : 0 ≤ ((ji10) : Int):=of_decide_eq_true az;have q249 : (ji10) < (l0.length : Int):=of_decide_eq_true az;obtain ⟨ad249,e249,hx249_0⟩:=Kd.at_int HR0.out (ji10) p249 q249;obtain rfl : ad247 = ad249:=(by injection e249);replace p249:=eq_true p249;replace q249:=eq_true q249))
           go_roundg k1
           case measure=>have:=HK1.out;omega
           case rel=>exact ⟨(wrap64 (x11_1 + 1)),fz,H',⟨by have:=HK1.out;omega⟩,by repeat (first|exact Drawn0.refl _|apply Drawn0.step)⟩
         ·rw [if_neg c12] at H
          exact absurd H (by simp)
        ·rw [if_neg c11] at H
         exact absurd H (by simp)
       ·rw [if_neg c9] at H
        have c9b0 : decide (0 < x11_1) = false:=decide_eq_false c9
        clear c9
        have H':=Aside0.mk H
        clear H
        have p247 : 0 ≤ (x11_1 : Int):=of_decide_eq_true az
        have q247 : x11_1 < (l0.length : Int):=of_decide_eq_true az
        obtain ⟨ad247,e247,hx247_0⟩:=Kd.at_int HR0.out x11_1 p247 q247
        cases e247
        replace p247:=eq_true p247
        replace q247:=eq_true q247
        go_wp2_with (first|((with_reducible refine gate_callee (f:=66) rfl ?_);refine goesL_ (some 19) rfl rfl Try.func66 (by kernel_rfl) rfl #[.int .i64 (rd l0 x11_1),.int .i64 a1,.int .i64 a2] rfl mz ?_;(with_reducible refine (spec_l1In.calls (rd l0 x11_1) a1 a2 true _ A7.out).mono ?_);rintro e w' ⟨rfl,⟨nd,rfl⟩⟩;refine ⟨_,rfl,?_⟩))
        go_roundg k1
        case measure=>have:=HK1.out;omega
        case rel=>exact ⟨(wrap64 (x11_1 + 1)),fz,H',⟨by have:=HK1.out;omega⟩,by repeat (first|exact Drawn0.refl _|apply Drawn0.step)⟩
      ·replace c8:=Bool.eq_false_iff.mpr c8
       subst c8
       rw [if_neg (show ¬ (false = true) by decide)] at H
       obtain rfl:=Option.some.inj H
       have p247 : 0 ≤ (x11_1 : Int):=of_decide_eq_true az
       have q247 : x11_1 < (l0.length : Int):=of_decide_eq_true az
       obtain ⟨ad247,e247,hx247_0⟩:=Kd.at_int HR0.out x11_1 p247 q247
       cases e247
       replace p247:=eq_true p247
       replace q247:=eq_true q247
       go_wp2_with (first|((with_reducible refine gate_callee (f:=66) rfl ?_);refine goesL_ (some 19) rfl rfl Try.func66 (by kernel_rfl) rfl #[.int .i64 (rd l0 x11_1),.int .i64 a1,.int .i64 a2] rfl mz ?_;(with_reducible refine (spec_l1In.calls (rd l0 x11_1) a1 a2 false _ A7.out).mono ?_);rintro e w' ⟨rfl,⟨nd,rfl⟩⟩;refine ⟨_,rfl,?_⟩))
       go_ret
       exact ⟨by first|rfl|(simp;done)|(simp [*];done),by repeat (first|exact Drawn0.refl _|apply Drawn0.step)⟩
     ·rw [if_neg c6] at H
      exact absurd H (by simp)
    ·rw [if_neg c5] at H
     exact absurd H (by simp)
   ·rw [if_neg c4] at H
    have c4b0 : decide (x11_1 < (l0.length : Int)) = false:=decide_eq_false c4
    clear c4
    obtain rfl:=Option.some.inj H
    go_wp2
    go_ret
    exact ⟨by first|rfl|(simp;done)|(simp [*];done),by repeat (first|exact Drawn0.refl _|apply Drawn0.step)⟩
end Go.Proofs.Ytlefjgpkabijdaa.MFnNeededParts
--sq
