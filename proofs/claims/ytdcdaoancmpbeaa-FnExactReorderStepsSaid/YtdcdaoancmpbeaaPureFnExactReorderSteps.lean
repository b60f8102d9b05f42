import Derived.Test.YtdcdaoancmpbeaaMFnExactReorderStepsx14
namespace Go.Proofs.Ytdcdaoancmpbeaa.Pure
open Go.RowKit Go.Proofs.Ytdcdaoancmpbeaa.MFnExactReorderSteps Go.Proofs.YtdcdaoancmpbeaaW.PrintWords Go.Proofs.YtdcdaoancmpbeaaW.PrintLast Go.Proofs.YtdcdaoancmpbeaaW.PrintMore
set_option linter.unusedVariables false
set_option linter.unusedSimpArgs false
open Go.Proofs.YtdcdaoancmpbeaaH
theorem w64 {x:Int} (h1 : -9223372036854775808≤x) (h2:x≤9223372036854775807):wrap64 x=x:=by unfold wrap64;omega
theorem rd_nat (xs:List Int) (j:Nat):rd xs (j:Int)=xs.getD j 0:=by unfold rd;rw [Int.toNat_natCast]
theorem ev_shift {α:Type} {g:Nat→Option α} {r:α} (h:Ev (fun k=>g (k+1)) r):Ev g r:=by
 obtain ⟨K,hK⟩:=h
 refine ⟨K+1,fun k hk=>?_⟩
 obtain ⟨m,rfl⟩ : ∃ m,k=m+1:=⟨k - 1,by omega⟩
 exact hK m (by omega)
theorem ev_bind {α β:Type} {g:Nat→Option α} {F:Nat→α→Option β} {a:α} {r:β} (h:Ev g a) (k:Ev (fun n=>F n a) r):Ev (fun n=>(g n).bind (fun x=>F n x)) r:=Ev.bind h k
theorem eqIntS_same (xs:List Int) (hb:xs.length≤4611686018427387904):Ev (fun k=>laws_eqIntS.f k xs xs) true:=by
 have loop:∀ (d k:Nat) (i:Int),0≤i→i≤xs.length→(xs.length:Int) - i=d→d < k→laws_eqIntS.l0 k xs xs i=some true:=by
  intro d
  induction d with
  | zero=>
   intro k i h0 h1 hd hk
   obtain ⟨k,rfl⟩ : ∃ m,k=m+1:=⟨k - 1,by omega⟩
   rw [laws_eqIntS.l0,if_neg (by omega)]
  | succ d ih=>
   intro k i h0 h1 hd hk
   obtain ⟨k,rfl⟩ : ∃ m,k=m+1:=⟨k - 1,by omega⟩
   rw [laws_eqIntS.l0,if_pos (by omega),if_pos h0,if_pos (by omega),if_pos rfl,w64 (by omega) (by omega)]
   exact ih k (i+1) (by omega) (by omega) (by omega) (by omega)
 refine ⟨xs.length+1,fun k hk=>?_⟩
 show laws_eqIntS.f k xs xs=some true
 unfold laws_eqIntS.f
 rw [if_pos rfl]
 exact loop xs.length k 0 (by omega) (by omega) (by omega) (by omega)
theorem toIntS_step (xs:List Int) (i:Nat) (h:i < xs.length):(xs.take i++List.replicate (xs.length - i) 0).set i (xs.getD i 0)=xs.take (i+1)++List.replicate (xs.length - (i+1)) 0:=by
 have hl:(xs.take i).length=i:=by simp;omega
 rw [List.set_append_right _ _ (by omega),hl,Nat.sub_self]
 obtain ⟨m,hm⟩ : ∃ m,xs.length - i=m+1:=⟨xs.length - i - 1,by omega⟩
 have hm2:xs.length - (i+1)=m:=by omega
 have e:xs.getD i 0=xs[i]:=by simp [List.getD,h]
 rw [hm,hm2,List.replicate_succ,List.set_cons_zero,e,List.take_succ_eq_append_getElem h,List.append_assoc]
 rfl
theorem toIntS_ev (xs:List Int) (hb:xs.length≤35184372088832):Ev (fun k=>laws_toIntS.f k xs) xs:=by
 have loop:∀ (d k i:Nat),i≤xs.length→xs.length - i=d→d < k→laws_toIntS.l0 k xs (xs.take i++List.replicate (xs.length - i) 0) i=some xs:=by
  intro d
  induction d with
  | zero=>
   intro k i h1 hd hk
   obtain ⟨k,rfl⟩ : ∃ m,k=m+1:=⟨k - 1,by omega⟩
   obtain rfl:i=xs.length:=by omega
   rw [laws_toIntS.l0,if_neg (by omega)]
   simp
  | succ d ih=>
   intro k i h1 hd hk
   obtain ⟨k,rfl⟩ : ∃ m,k=m+1:=⟨k - 1,by omega⟩
   have hl:(xs.take i++List.replicate (xs.length - i) 0).length=xs.length:=by simp;omega
   rw [laws_toIntS.l0,if_pos (by omega),if_pos (by omega),hl,if_pos (by omega),Int.toNat_natCast,rd_nat,toIntS_step xs i (by omega),w64 (by omega) (by omega)]
   exact ih k (i+1) (by omega) (by omega) (by omega)
 refine ⟨xs.length+1,fun k hk=>?_⟩
 have h:=loop xs.length k 0 (by omega) (by omega) (by omega)
 show laws_toIntS.f k xs=some xs
 unfold laws_toIntS.f
 rw [if_pos (by omega),Int.toNat_natCast,if_pos hb]
 simpa using h
theorem l1In_eq (a b c:Int):spec_l1In.f a b c=some (decide (b≤a) && decide (a≤c)):=by
 unfold spec_l1In.f
 by_cases h:a ≥ b
 ·rw [if_pos h];simp [show b≤a from h]
 ·rw [if_neg h];simp [show ¬ b≤a from h]
def allFrom (xs:List Int) (a b:Int):Nat→Int→Bool
 | 0,_=>true
 | d+1,i=>if a≤rd xs i∧rd xs i≤b then allFrom xs a b d (i+1) else false
theorem l1All_ev (xs:List Int) (a b:Int) (hl:xs.length≤100000000):Ev (fun f=>spec_l1All.f f xs a b) (allFrom xs a b xs.length 0):=by
 have loop:∀ (d:Nat) (i:Int),0≤i→i+d=xs.length→Ev (fun f=>spec_l1All.l0 f a b xs xs.length i) (allFrom xs a b d i):=by
  intro d
  induction d with
  | zero=>
   intro i h0 hd
   refine ev_shift ?_
   simp only [spec_l1All.l0,if_neg (show ¬ i < (xs.length:Int) by omega),allFrom]
   exact Ev.now _
  | succ d ih=>
   intro i h0 hd
   have hn:=ih (i+1) (by omega) (by omega)
   refine ev_shift ?_
   simp only [spec_l1All.l0,if_pos (show i < (xs.length:Int) by omega),if_pos h0,w64 (show -9223372036854775808≤i+1 by omega) (by omega),l1In_eq,Option.bind_some]
   unfold allFrom
   by_cases c:a≤rd xs i∧rd xs i≤b
   ·rw [if_pos c];simp only [decide_eq_true c.1,decide_eq_true c.2,Bool.and_self,if_true];exact hn
   ·rw [if_neg c]
    have e:(decide (a≤rd xs i) && decide (rd xs i≤b))=false:=by rw [Bool.and_eq_false_iff,decide_eq_false_iff_not,decide_eq_false_iff_not];omega
    simp only [e,Bool.false_eq_true,if_false];exact Ev.now _
 exact loop xs.length 0 (by omega) (by omega)
def cv (s:S93):S73:=⟨s.f0,s.f1⟩
theorem take_set {α:Type} (ys:List α) (z:α) (i:Nat) (h:i < ys.length):(ys.take i++List.replicate (ys.length - i) z).set i (ys.getD i z)=ys.take (i+1)++List.replicate (ys.length - (i+1)) z:=by
 have hl:(ys.take i).length=i:=by simp;omega
 rw [List.set_append_right _ _ (by omega),hl,Nat.sub_self]
 obtain ⟨m,hm⟩ : ∃ m,ys.length - i=m+1:=⟨ys.length - i - 1,by omega⟩
 have hm2:ys.length - (i+1)=m:=by omega
 have e:ys.getD i z=ys[i]:=by simp [List.getD,h]
 rw [hm,hm2,List.replicate_succ,List.set_cons_zero,e,List.take_succ_eq_append_getElem h,List.append_assoc]
 rfl
theorem rd_cv (xs:List (S93)) (i:Nat):(⟨(rd_T93 xs (i:Int)).f0,(rd_T93 xs (i:Int)).f1⟩ : S73)=(xs.map cv).getD i z73:=by
 unfold rd_T93
 rw [Int.toNat_natCast]
 simp only [List.getD_eq_getElem?_getD,List.getElem?_map]
 cases xs[i]? <;> rfl
theorem toStepS_ev (xs:List (S93)) (hb:xs.length≤1048576):Ev (fun k=>laws_toStepS.f k xs) (xs.map cv):=by
 obtain ⟨ys,hy⟩ : ∃ ys,ys=xs.map cv:=⟨_,rfl⟩
 have hyl:ys.length=xs.length:=by rw [hy,List.length_map]
 have loop:∀ (d i:Nat),i+d=xs.length→Ev (fun k=>laws_toStepS.l0 k xs (ys.take i++List.replicate (ys.length - i) z73) i) ys:=by
  intro d
  induction d with
  | zero=>
   intro i hd
   refine ev_shift ?_
   simp only [laws_toStepS.l0,if_neg (show ¬ (i:Int) < (xs.length:Int) by omega)]
   have e:ys.take i++List.replicate (ys.length - i) z73=ys:=by
    rw [List.take_of_length_le (by omega),Nat.sub_eq_zero_of_le (by omega)];simp
   rw [e]
   exact Ev.now _
  | succ d ih=>
   intro i hd
   have hl:(ys.take i++List.replicate (ys.length - i) z73).length=ys.length:=by simp;omega
   refine ev_shift ?_
   simp only [laws_toStepS.l0,laws_toStep.f,Option.bind_some,hl,if_pos (show (i:Int) < (xs.length:Int) by omega),if_pos (show (i:Int) < (ys.length:Int) by omega),if_pos (show (0:Int)≤(i:Int) by omega),Int.toNat_natCast,rd_cv,← hy,w64 (show -9223372036854775808≤(i:Int)+1 by omega) (by omega)]
   rw [take_set ys _ i (by omega)]
   exact ih (i+1) (by omega)
 have h:=loop xs.length 0 (by omega)
 unfold laws_toStepS.f
 simp only [if_pos (show (0:Int)≤(xs.length:Int) by omega),Int.toNat_natCast,if_pos (show xs.length≤17592186044416 by omega)]
 rw [← hy]
 simpa [hyl] using h
theorem toPlan_ev (n:Int) (l1:List (S93)) (l2:List Int) (h1:l1.length≤1048576) (h2:l2.length≤1048576):Ev (fun k=>laws_toPlan.f k n l1 l2) (n,l1.map cv,l2):=by
 unfold laws_toPlan.f
 exact ev_bind (toStepS_ev l1 h1) (ev_bind (toIntS_ev l2 (by omega)) (Ev.now _))
theorem eqStepS_same (xs:List (S73)) (hb:xs.length≤1048576):Ev (fun k=>laws_eqStepS.f k xs xs) true:=by
 have loop:∀ (d i:Nat),i+d=xs.length→Ev (fun k=>laws_eqStepS.l0 k xs xs i) true:=by
  intro d
  induction d with
  | zero=>
   intro i hd
   refine ev_shift ?_
   simp only [laws_eqStepS.l0,if_neg (show ¬ (i:Int) < (xs.length:Int) by omega)]
   exact Ev.now _
  | succ d ih=>
   intro i hd
   refine ev_shift ?_
   simp only [laws_eqStepS.l0,laws_eqStep.f,Option.bind_some,if_true,if_pos (show (i:Int) < (xs.length:Int) by omega),if_pos (show (0:Int)≤(i:Int) by omega),w64 (show -9223372036854775808≤(i:Int)+1 by omega) (by omega)]
   exact ih (i+1) (by omega)
 unfold laws_eqStepS.f
 simp only [if_true]
 exact loop xs.length 0 (by omega)
theorem eqPlan_same (n:Int) (ss:List (S73)) (os:List Int) (h1:ss.length≤1048576) (h2:os.length≤1048576):Ev (fun k=>laws_eqPlan.f k n ss os n ss os) true:=by
 unfold laws_eqPlan.f
 simp only [if_true]
 refine ev_bind (eqStepS_same ss (by omega)) ?_
 simp only [if_true]
 refine ev_bind (eqIntS_same os (by omega)) ?_
 simp only [if_true]
 exact Ev.now _
def InOrder (n:Nat) (ss:List (S73)):Prop:=∀ i:Nat,i < ss.length→0≤(rd_T73 ss i).f0∧(rd_T73 ss i).f0≤(rd_T73 ss i).f1∧(rd_T73 ss i).f1 < n+i
def cap2 (x:Int):Int:=if x < 1000001 then x else 1000001
def sumFrom (a b:List Int):Nat→Int→List Int
 | 0,_=>[]
 | d+1,k=>cap2 (wrap64 (rd a k+rd b k)) :: sumFrom a b d (k+1)
theorem sumFrom_length (a b:List Int):∀ d k,(sumFrom a b d k).length=d
 | 0,_=>rfl
 | d+1,k=>by rw [sumFrom,List.length_cons,sumFrom_length a b d (k+1)]
def addRow (a b:List Int):List Int:=sumFrom a b a.length 0
def row0 (n i:Nat):List Int:=(List.replicate n 0).set i 1
def base0 (n m:Nat):List (List Int):=(List.range m).map (row0 n)
theorem base0_succ (n m:Nat):base0 n (m+1)=base0 n m++[row0 n m]:=by unfold base0;rw [List.range_succ,List.map_append];rfl
theorem base0_length (n m:Nat):(base0 n m).length=m:=by unfold base0;simp
def grow (ss:List (S73)):Nat→Int→List (List Int)→List (List Int)
 | 0,_,rows=>rows
 | d+1,i,rows=>grow ss d (i+1) (rows++[addRow (rd_L3 rows (rd_T73 ss i).f0) (rd_L3 rows (rd_T73 ss i).f1)])
def exps (n:Nat) (ss:List (S73)):List (List Int):=grow ss ss.length 0 (base0 n n)
def RowOk (n:Nat) (r:List Int):Prop:=r.length=n∧∀ e∈r,0≤e∧e≤1000001
def RowsOk (n m:Nat) (rows:List (List Int)):Prop:=rows.length=m∧∀ r∈rows,RowOk n r
theorem rd_mem (rows:List (List Int)) (a:Int) (h0:0≤a) (h1:a < rows.length):rd_L3 rows a∈rows:=by
 unfold rd_L3
 have h:a.toNat < rows.length:=by omega
 rw [show rows.getD a.toNat []=rows[a.toNat] by simp [List.getD,h]]
 exact List.getElem_mem h
theorem rd_in (r:List Int) (n:Nat) (hr:RowOk n r) (i:Int):0≤rd r i∧rd r i≤1000001:=by
 unfold rd
 rw [List.getD_eq_getElem?_getD]
 cases h:r[i.toNat]? with
 | none=>simp
 | some e=>exact hr.2 e (List.mem_of_getElem? h)
theorem sumFrom_ok (n:Nat) (a b:List Int) (ha:RowOk n a) (hb:RowOk n b):∀ d k,∀ e∈sumFrom a b d k,0≤e∧e≤1000001
 | 0,_,e,h=>by cases h
 | d+1,k,e,h=>by
  rw [sumFrom] at h
  rcases List.mem_cons.1 h with rfl|h
  ·have:=rd_in a n ha k
   have:=rd_in b n hb k
   rw [w64 (by omega) (by omega)]
   unfold cap2
   split <;> omega
  ·exact sumFrom_ok n a b ha hb d (k+1) e h
theorem addRow_ok (n:Nat) (a b:List Int) (ha:RowOk n a) (hb:RowOk n b):RowOk n (addRow a b):=⟨by unfold addRow;rw [sumFrom_length];exact ha.1,sumFrom_ok n a b ha hb _ _⟩
theorem base0_ok (n m:Nat):RowsOk n m (base0 n m):=by
 refine ⟨base0_length n m,fun r hr=>?_⟩
 unfold base0 at hr
 obtain ⟨i,_,rfl⟩:=List.mem_map.1 hr
 refine ⟨by unfold row0;simp,fun e he=>?_⟩
 unfold row0 at he
 rcases List.mem_or_eq_of_mem_set he with h|rfl
 ·have:=(List.mem_replicate.1 h).2
  omega
 ·omega
theorem RowsOk.snoc {n m:Nat} {rows:List (List Int)} {r:List Int} (h:RowsOk n m rows) (hr:RowOk n r):RowsOk n (m+1) (rows++[r]):=⟨by rw [List.length_append,h.1];rfl,fun q hq=>by
 rcases List.mem_append.1 hq with h1|h1
 ·exact h.2 q h1
 ·rw [List.mem_singleton.1 h1];exact hr⟩
theorem grow_ok (n:Nat) (ss:List (S73)) (ho:InOrder n ss):∀ (d i:Nat) (rows:List (List Int)),i+d=ss.length→RowsOk n (n+i) rows→RowsOk n (n+ss.length) (grow ss d i rows):=by
 intro d
 induction d with
 | zero=>
  intro i rows hd h
  obtain rfl:i=ss.length:=by omega
  exact h
 | succ d ih=>
  intro i rows hd h
  obtain ⟨h1,h2,h3⟩:=ho i (by omega)
  have hl:=h.1
  rw [grow]
  exact ih (i+1) _ (by omega) (h.snoc (addRow_ok n _ _ (h.2 _ (rd_mem rows _ h1 (by omega))) (h.2 _ (rd_mem rows _ (by omega) (by omega)))))
theorem exps_ok (n:Nat) (ss:List (S73)) (ho:InOrder n ss):RowsOk n (n+ss.length) (exps n ss):=grow_ok n ss ho ss.length 0 _ (by omega) (base0_ok n n)
theorem plSum_ev (a b:List Int) (hl:b.length=a.length) (ha:a.length≤1000):Ev (fun k=>spec_plSum.f k a b) (addRow a b):=by
 have loop:∀ (d:Nat) (i:Int) (acc:List Int),0≤i→i+d=a.length→acc.length+d≤1000000→Ev (fun k=>spec_plSum.l0 k a b acc a.length i) (acc++sumFrom a b d i):=by
  intro d
  induction d with
  | zero=>
   intro i acc h0 hd _
   refine ev_shift ?_
   simp only [spec_plSum.l0,if_neg (show ¬ i < (a.length:Int) by omega),sumFrom,List.append_nil]
   exact Ev.now _
  | succ d ih=>
   intro i acc h0 hd hacc
   have e:∀ x:Int,spec_l1Least.f x 1000001=some (cap2 x):=fun x=>by
    unfold spec_l1Least.f cap2
    split <;> rfl
   refine ev_shift ?_
   simp only [spec_plSum.l0,if_pos (show i < (a.length:Int) by omega),if_pos h0,if_pos (show i < (b.length:Int) by omega),if_pos (show acc.length < 17592186044416 by omega),e,Option.bind_some,w64 (show -9223372036854775808≤i+1 by omega) (by omega),sumFrom]
   have:=ih (i+1) (acc++[cap2 (wrap64 (rd a i+rd b i))]) (by omega) (by omega) (by simp only [List.length_append,List.length_singleton];omega)
   rwa [List.append_assoc,List.singleton_append] at this
 unfold spec_plSum.f addRow
 have:=loop a.length 0 [] (by omega) (by omega) (by simp;omega)
 rwa [List.nil_append] at this
theorem plExponents_ev (n:Nat) (ss:List (S73)) (os:List Int) (hn:n≤6) (hs:ss.length≤40) (ho:InOrder n ss):Ev (fun k=>spec_plExponents.f k n ss os) (exps n ss):=by
 have second:∀ (d i:Nat) (rows:List (List Int)),i+d=ss.length→RowsOk n (n+i) rows→Ev (fun k=>spec_plExponents.l1 k rows ss ss.length i) (grow ss d i rows):=by
  intro d
  induction d with
  | zero=>
   intro i rows hd _
   refine ev_shift ?_
   simp only [spec_plExponents.l1,if_neg (show ¬ (i:Int) < (ss.length:Int) by omega),grow]
   exact Ev.now _
  | succ d ih=>
   intro i rows hd h
   obtain ⟨h1,h2,h3⟩:=ho i (by omega)
   have hl:=h.1
   have ra:=h.2 _ (rd_mem rows (rd_T73 ss i).f0 h1 (by omega))
   have rb:=h.2 _ (rd_mem rows (rd_T73 ss i).f1 (by omega) (by omega))
   refine ev_shift ?_
   simp only [spec_plExponents.l1,if_pos (show (i:Int) < (ss.length:Int) by omega),if_pos (show (0:Int)≤(i:Int) by omega),if_pos h1,if_pos (show (rd_T73 ss i).f0 < (rows.length:Int) by omega),if_pos (show 0≤(rd_T73 ss i).f1 by omega),if_pos (show (rd_T73 ss i).f1 < (rows.length:Int) by omega),if_pos (show rows.length < 5864062014805 by omega),w64 (show -9223372036854775808≤(i:Int)+1 by omega) (by omega),grow]
   refine ev_bind (plSum_ev _ _ (by rw [ra.1,rb.1]) (by rw [ra.1];omega)) ?_
   exact ih (i+1) _ (by omega) (h.snoc (addRow_ok n _ _ ra rb))
 have first_:∀ (d i:Nat),i+d=n→Ev (fun k=>spec_plExponents.l0 k (base0 n i) i n ss os) (exps n ss):=by
  intro d
  induction d with
  | zero=>
   intro i hd
   obtain rfl:i=n:=by omega
   refine ev_shift ?_
   simp only [spec_plExponents.l0,if_neg (show ¬ (i:Int) < (i:Int) by omega)]
   exact second ss.length 0 _ (by omega) (base0_ok i i)
  | succ d ih=>
   intro i hd
   refine ev_shift ?_
   simp only [spec_plExponents.l0,if_pos (show (i:Int) < (n:Int) by omega),if_pos (show (0:Int)≤(n:Int) by omega),Int.toNat_natCast,if_pos (show n≤35184372088832 by omega),Option.bind_some,if_pos (show (0:Int)≤(i:Int) by omega),List.length_replicate,base0_length,if_pos (show i < 5864062014805 by omega),w64 (show -9223372036854775808≤(i:Int)+1 by omega) (by omega)]
   have:=ih (i+1) (by omega)
   rw [base0_succ] at this
   exact this
 exact first_ n 0 (by omega)
theorem exponents_ev (n:Nat) (ss:List (S73)) (os:List Int) (hn:n≤6) (hs:ss.length≤40) (ho:InOrder n ss):Ev (fun k=>impl_Plan_exponents.f k n ss os) (exps n ss):=by
 have inner:∀ (rows:List (List Int)) (i:Nat) (A B:Int) (r:List (List Int)),rows.length≤100→RowOk n (rd_L3 rows A)→RowOk n (rd_L3 rows B)→0≤B→B < rows.length→Ev (fun k=>impl_Plan_exponents.l1 k (rows++[addRow (rd_L3 rows A) (rd_L3 rows B)]) ss ss.length (wrap64 ((i:Int)+1))) r→∀ (d:Nat) (j:Int) (acc:List Int),0≤j→j+d=(rd_L3 rows A).length→acc.length+d≤1000000→acc++sumFrom (rd_L3 rows A) (rd_L3 rows B) d j=addRow (rd_L3 rows A) (rd_L3 rows B)→Ev (fun k=>impl_Plan_exponents.l2 k rows acc ss ss.length i (rd_L3 rows A) (rd_L3 rows A).length j A B) r:=by
  intro rows i A B r hl ra rb hb0 hb1 hr d
  induction d with
  | zero=>
   intro j acc h0 hd _ he
   rw [sumFrom,List.append_nil] at he
   refine ev_shift ?_
   simp only [impl_Plan_exponents.l2,if_neg (show ¬ j < ((rd_L3 rows A).length:Int) by omega),if_pos (show rows.length < 5864062014805 by omega)]
   rw [he]
   exact hr
  | succ d ih=>
   intro j acc h0 hd hacc he
   have hlen:(rd_L3 rows B).length=(rd_L3 rows A).length:=by rw [ra.1,rb.1]
   have e:∀ x:Int,mn x 1000001=cap2 x:=fun x=>by
    unfold mn cap2
    split <;> split <;> omega
   refine ev_shift ?_
   simp only [impl_Plan_exponents.l2,if_pos (show j < ((rd_L3 rows A).length:Int) by omega),if_pos h0,if_pos hb0,if_pos hb1,if_pos (show j < ((rd_L3 rows B).length:Int) by omega),if_pos (show acc.length < 17592186044416 by omega),e,w64 (show -9223372036854775808≤j+1 by omega) (by have:=ra.1;omega)]
   rw [sumFrom] at he
   exact ih (j+1) _ (by omega) (by omega) (by simp only [List.length_append,List.length_singleton];omega) (by rw [List.append_assoc,List.singleton_append];exact he)
 have second:∀ (d i:Nat) (rows:List (List Int)),i+d=ss.length→RowsOk n (n+i) rows→Ev (fun k=>impl_Plan_exponents.l1 k rows ss ss.length i) (grow ss d i rows):=by
  intro d
  induction d with
  | zero=>
   intro i rows hd _
   refine ev_shift ?_
   simp only [impl_Plan_exponents.l1,if_neg (show ¬ (i:Int) < (ss.length:Int) by omega),grow]
   exact Ev.now _
  | succ d ih=>
   intro i rows hd h
   obtain ⟨h1,h2,h3⟩:=ho i (by omega)
   have hl:=h.1
   have ra:=h.2 _ (rd_mem rows (rd_T73 ss i).f0 h1 (by omega))
   have rb:=h.2 _ (rd_mem rows (rd_T73 ss i).f1 (by omega) (by omega))
   refine ev_shift ?_
   simp only [impl_Plan_exponents.l1,if_pos (show (i:Int) < (ss.length:Int) by omega),if_pos (show (0:Int)≤(i:Int) by omega),if_pos h1,if_pos (show (rd_T73 ss i).f0 < (rows.length:Int) by omega),grow]
   refine inner rows i _ _ _ (by omega) ra rb (by omega) (by omega) ?_ (rd_L3 rows (rd_T73 ss i).f0).length 0 [] (by omega) (by omega) (by have:=ra.1;simp;omega) (by rw [List.nil_append];rfl)
   rw [w64 (by omega) (by omega)]
   exact ih (i+1) _ (by omega) (h.snoc (addRow_ok n _ _ ra rb))
 have first_:∀ (d i:Nat),i+d=n→Ev (fun k=>impl_Plan_exponents.l0 k (base0 n i) n i n ss os) (exps n ss):=by
  intro d
  induction d with
  | zero=>
   intro i hd
   obtain rfl:i=n:=by omega
   refine ev_shift ?_
   simp only [impl_Plan_exponents.l0,if_neg (show ¬ (i:Int) < (i:Int) by omega)]
   exact second ss.length 0 _ (by omega) (base0_ok i i)
  | succ d ih=>
   intro i hd
   refine ev_shift ?_
   simp only [impl_Plan_exponents.l0,if_pos (show (i:Int) < (n:Int) by omega),if_pos (show (0:Int)≤(n:Int) by omega),Int.toNat_natCast,if_pos (show n≤35184372088832 by omega),Option.bind_some,if_pos (show (0:Int)≤(i:Int) by omega),List.length_replicate,base0_length,if_pos (show i < 5864062014805 by omega),w64 (show -9223372036854775808≤(i:Int)+1 by omega) (by omega)]
   have:=ih (i+1) (by omega)
   rw [base0_succ] at this
   exact this
 exact first_ n 0 (by omega)
def goodFrom (rows:List (List Int)):Nat→Int→Bool
 | 0,_=>true
 | d+1,i=>if allFrom (rd_L3 rows i) 0 1000000 (rd_L3 rows i).length 0=true then goodFrom rows d (i+1) else false
def planOk (n:Int) (ss:List (S73)) (os:List Int):Bool:=impl_IsPlan.formed n ss os && goodFrom (exps n.toNat ss) (exps n.toNat ss).length 0
theorem goodFrom_all (rows:List (List Int)):∀ (xs pre:List (List Int)),rows=pre++xs→goodFrom rows xs.length (pre.length:Int)=xs.all (fun r=>allFrom r 0 1000000 r.length 0)
 | [],pre,_=>rfl
 | x :: xs,pre,h=>by
  have e:rd_L3 rows (pre.length:Int)=x:=by
   unfold rd_L3
   rw [Int.toNat_natCast,h]
   simp [List.getD_eq_getElem?_getD]
  have:=goodFrom_all rows xs (pre++[x]) (by rw [h,List.append_assoc];rfl)
  rw [List.length_append] at this
  rw [List.length_cons,goodFrom,e,List.all_cons]
  cases allFrom x 0 1000000 x.length 0 with
  | true=>rw [if_pos rfl,Bool.true_and,← this];rfl
  | false=>rw [if_neg (by decide),Bool.false_and]
theorem goodFrom_eq (rows:List (List Int)):goodFrom rows rows.length 0=rows.all (fun r=>allFrom r 0 1000000 r.length 0):=goodFrom_all rows rows [] rfl
theorem steps_order (n:Nat) (ss:List (S73)):∀ (d i:Nat),impl_IsPlan.steps n ss d i=true→∀ j,i≤j→j < i+d→0≤(rd_T73 ss j).f0∧(rd_T73 ss j).f0≤(rd_T73 ss j).f1∧(rd_T73 ss j).f1 < n+j:=by
 intro d
 induction d with
 | zero=>intro i _ j h1 h2;omega
 | succ d ih=>
  intro i h j h1 h2
  rw [impl_IsPlan.steps] at h
  by_cases k1:(rd_T73 ss i).f0 < 0
  ·rw [if_pos k1] at h;cases h
  ·rw [if_neg k1] at h
   by_cases k2:(rd_T73 ss i).f0 > (rd_T73 ss i).f1
   ·rw [if_pos k2] at h;cases h
   ·rw [if_neg k2] at h
    by_cases k3:(rd_T73 ss i).f1 ≥ (n:Int)+i
    ·rw [if_pos k3] at h;cases h
    ·rw [if_neg k3] at h
     by_cases e:j=i
     ·subst e;omega
     ·exact ih (i+1) h j (by omega) (by omega)
theorem order_of (n:Nat) (ss:List (S73)) (h:impl_IsPlan.steps n ss ss.length 0=true):InOrder n ss:=fun i hi=>steps_order n ss ss.length 0 h i (by omega) (by omega)
theorem formed_of {n:Int} {ss:List (S73)} {os:List Int} (h:impl_IsPlan.formed n ss os=true):(1≤n∧n≤6)∧ss.length≤40∧os.length≤6∧impl_IsPlan.steps n ss ss.length 0=true∧anyIx (impl_IsPlan.outs n ss os) os.length 0=false:=by
 unfold impl_IsPlan.formed at h
 by_cases c1:1≤n∧n≤6
 ·rw [if_pos c1] at h
  by_cases c2:ss.length≤40
  ·rw [if_pos c2] at h
   by_cases c3:os.length≤6
   ·rw [if_pos c3] at h
    by_cases c4:impl_IsPlan.steps n ss ss.length 0=true
    ·rw [if_pos c4] at h
     exact ⟨c1,c2,c3,c4,by simpa using h⟩
    ·rw [if_neg c4] at h;cases h
   ·rw [if_neg c3] at h;cases h
  ·rw [if_neg c2] at h;cases h
 ·rw [if_neg c1] at h;cases h
def maxFrom (xs:List Int):Nat→Int→Int→Int
 | 0,_,m=>m
 | d+1,i,m=>maxFrom xs d (i+1) (mx m (rd xs i))
theorem max_ev (xs:List Int) (h0:0 < xs.length) (hl:xs.length≤1000000):Ev (fun k=>slices_Max_int_int.f k xs) (maxFrom xs (xs.length - 1) 1 (rd xs 0)):=by
 have loop:∀ (d:Nat) (i m:Int),0≤i→i+d=xs.length→Ev (fun k=>slices_Max_int_int.l0 k xs m i) (maxFrom xs d i m):=by
  intro d
  induction d with
  | zero=>
   intro i m _ hd
   refine ev_shift ?_
   simp only [slices_Max_int_int.l0,if_neg (show ¬ i < (xs.length:Int) by omega),maxFrom]
   exact Ev.now _
  | succ d ih=>
   intro i m h0 hd
   refine ev_shift ?_
   simp only [slices_Max_int_int.l0,if_pos (show i < (xs.length:Int) by omega),if_pos h0,w64 (show -9223372036854775808≤i+1 by omega) (by omega),maxFrom]
   exact ih (i+1) _ (by omega) (by omega)
 unfold slices_Max_int_int.f
 simp only [if_neg (show ¬ (xs.length:Int) < 1 by omega),if_pos (show (0:Int) < (xs.length:Int) by omega)]
 exact loop (xs.length - 1) 1 _ (by omega) (by omega)
theorem max_all (n:Nat) (xs:List Int) (hx:RowOk n xs):∀ (d:Nat) (i m:Int),decide (maxFrom xs d i m > 1000000) = !(decide (m≤1000000) && allFrom xs 0 1000000 d i)
 | 0,i,m=>by
  rw [maxFrom,allFrom,Bool.and_true]
  by_cases c:m≤1000000
  ·rw [decide_eq_true c,decide_eq_false (by omega)];rfl
  ·rw [decide_eq_false c,decide_eq_true (by omega)];rfl
 | d+1,i,m=>by
  have hr:=rd_in xs n hx i
  rw [maxFrom,max_all n xs hx d (i+1),allFrom]
  by_cases c:m≤1000000
  ·rw [decide_eq_true c]
   by_cases c2:rd xs i≤1000000
   ·rw [if_pos ⟨hr.1,c2⟩,decide_eq_true (by unfold mx;split <;> omega)]
   ·rw [if_neg (by omega),decide_eq_false (by unfold mx;split <;> omega)];rfl
  ·rw [decide_eq_false c,decide_eq_false (by unfold mx;split <;> omega)];rfl
theorem top_ev (n:Nat) (hn:1≤n) (hn6:n≤6):∀ (rows:List (List Int)),(∀ r∈rows,RowOk n r)→Ev (fun k=>impl_IsPlan.top k rows) (!(rows.all (fun r=>allFrom r 0 1000000 r.length 0)))
 | [],_=>Ev.now _
 | x :: xs,h=>by
  have hx:=h x (List.mem_cons_self ..)
  have hxl:=hx.1
  refine ev_bind (max_ev x (by omega) (by omega)) ?_
  refine ev_bind (top_ev n hn hn6 xs (fun r hr=>h r (List.mem_cons_of_mem _ hr))) ?_
  have e:decide (maxFrom x (x.length - 1) 1 (rd x 0) > 1000000) = !(allFrom x 0 1000000 x.length 0):=by
   obtain ⟨m,hm⟩ : ∃ m,x.length=m+1:=⟨x.length - 1,by omega⟩
   have hr:=rd_in x n hx 0
   rw [hm,Nat.add_sub_cancel,max_all n x hx,allFrom]
   by_cases c:rd x 0≤1000000
   ·rw [decide_eq_true c,if_pos ⟨hr.1,c⟩,Bool.true_and];rfl
   ·rw [decide_eq_false c,if_neg (by omega)];rfl
  have e2:(decide (maxFrom x (x.length - 1) 1 (rd x 0) > 1000000) || !(xs.all fun r=>allFrom r 0 1000000 r.length 0)) = !((x :: xs).all fun r=>allFrom r 0 1000000 r.length 0):=by
   rw [e,List.all_cons,Bool.not_and]
  simp only [e2]
  exact Ev.now _
theorem isPlan_ev (n:Int) (ss:List (S73)) (os:List Int):Ev (fun k=>impl_IsPlan.f k n ss os) (planOk n ss os):=by
 unfold impl_IsPlan.f planOk
 by_cases c:impl_IsPlan.formed n ss os=true
 ·obtain ⟨h1,h2,h3,h4,h5⟩:=formed_of c
  obtain ⟨m,rfl⟩:=Int.eq_ofNat_of_zero_le (show 0≤n by omega)
  have ho:=order_of m ss h4
  have hok:=exps_ok m ss ho
  simp only [c,if_true,Bool.true_and,Int.toNat_natCast]
  refine ev_bind (exponents_ev m ss os (by omega) h2 ho) ?_
  refine ev_bind (top_ev m (by omega) (by omega) _ hok.2) ?_
  rw [goodFrom_eq,Bool.not_not]
  exact Ev.now _
 ·simp only [Bool.eq_false_iff.mpr c,Bool.false_and]
  exact Ev.now _
theorem outs_all (n:Int) (ss:List (S73)) (os:List Int):∀ (d i:Nat),anyIx (impl_IsPlan.outs n ss os) d i = !(allFrom os 0 (n+ss.length - 1) d i)
 | 0,_=>rfl
 | d+1,i=>by
  have ih:=outs_all n ss os d (i+1)
  rw [anyIx,allFrom,ih]
  unfold impl_IsPlan.outs
  by_cases c:0≤rd os i∧rd os i≤n+ss.length - 1
  ·rw [if_pos c,decide_eq_true c.1,decide_eq_true c.2];rfl
  ·rw [if_neg c]
   have e:(decide (0≤rd os (i:Int)) && decide (rd os (i:Int)≤n+ss.length - 1))=false:=by rw [Bool.and_eq_false_iff,decide_eq_false_iff_not,decide_eq_false_iff_not];omega
   rw [e];rfl
theorem plGood_ev (n:Int) (ss:List (S73)) (os:List Int):Ev (fun k=>spec_plGood.f k n ss os) (planOk n ss os):=by
 have no:∀ b:Bool,planOk n ss os=false→b=true→Ev (fun k=>spec_plGood.j0 k b n ss os) (planOk n ss os):=by
  intro b h hb
  subst hb
  refine ev_shift ?_
  simp only [spec_plGood.j0,if_true,h]
  exact Ev.now _
 unfold spec_plGood.f
 simp only [l1In_eq,Option.bind_some]
 by_cases c1:1≤n∧n≤6
 ·simp only [decide_eq_true c1.1,decide_eq_true c1.2,Bool.and_self,if_true]
  by_cases c2:ss.length≤40
  ·simp only [if_neg (show ¬ (ss.length:Int) > 40 by omega)]
   by_cases c3:os.length≤6
   ·have e3:decide ((os.length:Int) > 6)=false:=decide_eq_false (by omega)
    simp only [e3]
    obtain ⟨m,rfl⟩:=Int.eq_ofNat_of_zero_le (show 0≤n by omega)
    refine ev_shift ?_
    simp only [spec_plGood.j0,Bool.false_eq_true,if_false]
    have rows:∀ (rs:List (List Int)),rs.length≤1000→(∀ r∈rs,RowOk m r)→∀ (d:Nat) (i:Int),0≤i→i+d=rs.length→Ev (fun k=>spec_plGood.l1 k rs rs.length i m ss os) (goodFrom rs d i && allFrom os 0 ((m:Int)+ss.length - 1) os.length 0):=by
     intro rs hl hok d
     induction d with
     | zero=>
      intro i h0 hd
      refine ev_shift ?_
      simp only [spec_plGood.l1,if_neg (show ¬ i < (rs.length:Int) by omega),goodFrom,Bool.true_and]
      rw [w64 (show -9223372036854775808≤(m:Int)+(ss.length:Int) by omega) (by omega),w64 (by omega) (by omega)]
      exact ev_bind (l1All_ev os 0 _ (by omega)) (Ev.now _)
     | succ d ih=>
      intro i h0 hd
      have hr:=(hok _ (rd_mem rs i h0 (by omega))).1
      refine ev_shift ?_
      simp only [spec_plGood.l1,if_pos (show i < (rs.length:Int) by omega),if_pos h0,w64 (show -9223372036854775808≤i+1 by omega) (by omega),goodFrom]
      refine ev_bind (l1All_ev _ 0 1000000 (by omega)) ?_
      by_cases c:allFrom (rd_L3 rs i) 0 1000000 (rd_L3 rs i).length 0=true
      ·simp only [c,if_true]
       exact ih (i+1) (by omega) (by omega)
      ·simp only [if_neg c,Bool.false_and]
       exact Ev.now _
    have steps:∀ (r:Bool) (d i:Nat),i+d=ss.length→(impl_IsPlan.steps m ss d i=true→Ev (fun k=>(spec_plExponents.f k m ss os).bind fun t=>spec_plGood.l1 k t t.length 0 m ss os) r)→(impl_IsPlan.steps m ss d i=false→r=false)→Ev (fun k=>spec_plGood.l0 k ss ss.length i m ss os) r:=by
     intro r d
     induction d with
     | zero=>
      intro i hd h1 _
      refine ev_shift ?_
      simp only [spec_plGood.l0,if_neg (show ¬ (i:Int) < (ss.length:Int) by omega)]
      exact h1 rfl
     | succ d ih=>
      intro i hd h1 h2
      rw [impl_IsPlan.steps] at h1 h2
      refine ev_shift ?_
      simp only [spec_plGood.l0,if_pos (show (i:Int) < (ss.length:Int) by omega),if_pos (show (0:Int)≤(i:Int) by omega),l1In_eq,Option.bind_some,w64 (show -9223372036854775808≤(m:Int)+(i:Int) by omega) (by omega),w64 (show -9223372036854775808≤(i:Int)+1 by omega) (by omega)]
      by_cases k1:(rd_T73 ss i).f0 < 0
      ·rw [if_pos k1] at h2
       rw [h2 rfl]
       simp only [decide_eq_false (show ¬ 0≤(rd_T73 ss i).f0 by omega),Bool.false_and,Bool.false_eq_true,if_false]
       exact Ev.now _
      ·rw [if_neg k1] at h1 h2
       by_cases k2:(rd_T73 ss i).f0 > (rd_T73 ss i).f1
       ·rw [if_pos k2] at h2
        rw [h2 rfl]
        simp only [decide_eq_false (show ¬ (rd_T73 ss i).f0≤(rd_T73 ss i).f1 by omega),Bool.and_false,Bool.false_eq_true,if_false]
        exact Ev.now _
       ·rw [if_neg k2] at h1 h2
        simp only [decide_eq_true (show 0≤(rd_T73 ss i).f0 by omega),decide_eq_true (show (rd_T73 ss i).f0≤(rd_T73 ss i).f1 by omega),Bool.and_self,if_true]
        by_cases k3:(rd_T73 ss i).f1 ≥ (m:Int)+i
        ·rw [if_pos k3] at h2
         rw [h2 rfl]
         simp only [if_pos k3]
         exact Ev.now _
        ·rw [if_neg k3] at h1 h2
         simp only [if_neg k3]
         exact ih (i+1) (by omega) h1 h2
    refine steps _ ss.length 0 (by omega) (fun hs=>?_) (fun hs=>?_)
    ·have ho:=order_of m ss hs
     have hok:=exps_ok m ss ho
     have hlen:=hok.1
     refine ev_bind (plExponents_ev m ss os (by omega) c2 ho) ?_
     have:=rows (exps m ss) (by omega) hok.2 (exps m ss).length 0 (by omega) (by omega)
     have e:planOk m ss os=(goodFrom (exps m ss) (exps m ss).length 0 && allFrom os 0 ((m:Int)+ss.length - 1) os.length 0):=by
      unfold planOk impl_IsPlan.formed
      rw [if_pos c1,if_pos c2,if_pos c3,if_pos hs,outs_all,Bool.not_not,Bool.and_comm,Int.toNat_natCast]
      rfl
     rw [e]
     exact this
    ·unfold planOk impl_IsPlan.formed
     rw [if_pos c1,if_pos c2,if_pos c3,if_neg (by rw [hs];decide),Bool.false_and]
   ·exact no _ (by unfold planOk impl_IsPlan.formed;rw [if_pos c1,if_pos c2,if_neg c3,Bool.false_and]) (decide_eq_true (by omega))
  ·simp only [if_pos (show (ss.length:Int) > 40 by omega)]
   exact no _ (by unfold planOk impl_IsPlan.formed;rw [if_pos c1,if_neg c2,Bool.false_and]) rfl
 ·have e:(decide (1≤n) && decide (n≤6))=false:=by rw [Bool.and_eq_false_iff,decide_eq_false_iff_not,decide_eq_false_iff_not];omega
  simp only [e,Bool.false_eq_true,if_false]
  exact no _ (by unfold planOk impl_IsPlan.formed;rw [if_neg c1,Bool.false_and]) rfl
theorem planOk_of {n:Int} {ss:List (S73)} {os:List Int} (h:planOk n ss os=true) : ∃ m:Nat,n=m∧1≤m∧m≤6∧ss.length≤40∧os.length≤6∧InOrder m ss∧(∀ j:Nat,j < os.length→0≤rd os j∧rd os j≤(m:Int)+ss.length - 1)∧∀ r∈exps m ss,∀ e∈r,0≤e∧e≤1000000:=by
 unfold planOk at h
 rw [Bool.and_eq_true] at h
 obtain ⟨h1,h2,h3,h4,h5⟩:=formed_of h.1
 obtain ⟨m,rfl⟩:=Int.eq_ofNat_of_zero_le (show 0≤n by omega)
 have all_rd:∀ (xs:List Int) (a b:Int) (d i:Nat),allFrom xs a b d i=true→∀ j:Nat,i≤j→j < i+d→a≤rd xs j∧rd xs j≤b:=by
  intro xs a b d
  induction d with
  | zero=>intro i _ j h1 h2;omega
  | succ d ih=>
   intro i h j h1 h2
   rw [allFrom] at h
   by_cases c:a≤rd xs i∧rd xs i≤b
   ·rw [if_pos c] at h
    by_cases e:j=i
    ·subst e;exact c
    ·exact ih (i+1) h j (by omega) (by omega)
   ·rw [if_neg c] at h;cases h
 refine ⟨m,rfl,by omega,by omega,h2,h3,order_of m ss h4,fun j hj=>?_,fun r hr e he=>?_⟩
 ·rw [outs_all,Bool.not_eq_false'] at h5
  exact all_rd os _ _ os.length 0 h5 j (by omega) (by omega)
 ·have h6:=h.2
  rw [Int.toNat_natCast,goodFrom_eq] at h6
  have h7:=List.all_eq_true.1 h6 r hr
  obtain ⟨j,hj,rfl⟩:=List.mem_iff_getElem.1 he
  have:=all_rd r 0 1000000 r.length 0 h7 j (by omega) (by omega)
  rw [rd_nat] at this
  simpa [List.getD_eq_getElem?_getD,hj] using this
theorem sz_gen (n:Int) (l1:List (S93)) (l2:List Int) (a:Int) (h0:0≤a) (ha:a≤1048576) (m1:l1.length≤maxLen) (m2:l2.length≤maxLen):laws_szPlan.f n l1 l2 a=some (if (l1.length:Int)+l2.length≤a then a - (l1.length:Int) - (l2.length:Int) else -1):=by
 unfold maxLen at m1 m2
 unfold laws_szPlan.f laws_szStepS.f laws_szIntS.f
 rw [w64 (show -9223372036854775808≤a - (l1.length:Int) by omega) (by omega)]
 by_cases c:a - (l1.length:Int) < 0
 ·rw [if_pos c,Option.bind_some,if_pos (by omega),if_neg (by omega)]
 ·rw [if_neg c,Option.bind_some,if_neg c,w64 (by omega) (by omega)]
  by_cases c2:a - (l1.length:Int) - (l2.length:Int) < 0
  ·rw [if_pos c2,Option.bind_some,if_pos (by omega),if_neg (by omega)]
  ·rw [if_neg c2,Option.bind_some,if_neg c2,if_pos (by omega)]
def marked (n:Nat) (a:Int):List Int:=(List.range n).map (fun j:Nat=>a+(j:Int))
theorem marked_length (n:Nat) (a:Int):(marked n a).length=n:=by simp [marked]
theorem marked_succ (n:Nat) (a:Int):marked (n+1) a=marked n a++[a+n]:=by simp [marked,List.range_succ]
theorem marked_get (n:Nat) (a:Int) (j:Nat) (h:j < n):(marked n a).getD j 0=a+j:=by simp [marked,List.getD,h]
theorem marked_step (xs:List Int) (a:Int) (i:Nat) (h:i < xs.length):(marked i a++xs.drop i).set i (a+i)=marked (i+1) a++xs.drop (i+1):=by
 rw [List.set_append_right _ _ (by rw [marked_length];exact Nat.le_refl _),marked_length,Nat.sub_self,List.drop_eq_getElem_cons h,List.set_cons_zero,marked_succ]
 simp
theorem markIntS_ev (xs:List Int) (a:Int) (h0:0≤a) (ha:a+xs.length≤4611686018427387904):Ev (fun k=>laws_markIntS.f k xs a) (a+xs.length,marked xs.length a):=by
 have loop:∀ (d k i:Nat),i≤xs.length→xs.length - i=d→d < k→laws_markIntS.l0 k (marked i a++xs.drop i) (a+i) i=some (a+xs.length,marked xs.length a):=by
  intro d
  induction d with
  | zero=>
   intro k i h1 hd hk
   obtain ⟨k,rfl⟩ : ∃ m,k=m+1:=⟨k - 1,by omega⟩
   obtain rfl:i=xs.length:=by omega
   have hl:(marked xs.length a++xs.drop xs.length).length=xs.length:=by simp [marked_length]
   rw [laws_markIntS.l0,hl,if_neg (by omega)]
   simp
  | succ d ih=>
   intro k i h1 hd hk
   obtain ⟨k,rfl⟩ : ∃ m,k=m+1:=⟨k - 1,by omega⟩
   have hl:(marked i a++xs.drop i).length=xs.length:=by simp [marked_length];omega
   rw [laws_markIntS.l0,hl,if_pos (by omega),if_pos (by omega),Int.toNat_natCast,marked_step xs a i (by omega),w64 (by omega) (by omega),w64 (by omega) (by omega)]
   have e:a+(i:Int)+1=a+((i+1:Nat):Int):=by omega
   rw [e]
   exact ih k (i+1) (by omega) (by omega) (by omega)
 refine ⟨xs.length+1,fun k hk=>?_⟩
 have h:=loop xs.length k 0 (by omega) (by omega) (by omega)
 simpa [marked,laws_markIntS.f] using h
theorem heldIntS_ev (n:Nat) (a:Int) (h0:0≤a) (ha:a+n≤4611686018427387904):Ev (fun k=>laws_heldIntS.f k (marked n a) a) (a+n):=by
 have loop:∀ (d k i:Nat),i≤n→n - i=d→d < k→laws_heldIntS.l0 k (marked n a) (a+i) i=some (a+n):=by
  intro d
  induction d with
  | zero=>
   intro k i h1 hd hk
   obtain ⟨k,rfl⟩ : ∃ m,k=m+1:=⟨k - 1,by omega⟩
   obtain rfl:i=n:=by omega
   rw [laws_heldIntS.l0,marked_length,if_neg (by omega)]
  | succ d ih=>
   intro k i h1 hd hk
   obtain ⟨k,rfl⟩ : ∃ m,k=m+1:=⟨k - 1,by omega⟩
   rw [laws_heldIntS.l0,marked_length,if_pos (by omega),if_pos (by omega),rd_nat,marked_get n a i (by omega),if_pos rfl,w64 (by omega) (by omega),w64 (by omega) (by omega)]
   have e:a+(i:Int)+1=a+((i+1:Nat):Int):=by omega
   rw [e]
   exact ih k (i+1) (by omega) (by omega) (by omega)
 refine ⟨n+1,fun k hk=>?_⟩
 have h:=loop n k 0 (by omega) (by omega) (by omega)
 simpa [laws_heldIntS.f] using h
abbrev St:=S73
abbrev rdS (ss:List St) (i:Int):St:=rd_T73 ss i
def markedS (n:Nat) (a:Int):List St:=(List.range n).map (fun j:Nat=>(⟨a+2*(j:Int),a+2*(j:Int)+1⟩ : St))
theorem markedS_length (n:Nat) (a:Int):(markedS n a).length=n:=by simp [markedS]
theorem markedS_succ (n:Nat) (a:Int):markedS (n+1) a=markedS n a++[⟨a+2*(n:Int),a+2*(n:Int)+1⟩]:=by simp [markedS,List.range_succ]
theorem rdS_nat (ss:List St) (j:Nat):rdS ss (j:Int)=ss.getD j z73:=by unfold rdS rd_T73;rw [Int.toNat_natCast]
theorem markedS_get (n:Nat) (a:Int) (j:Nat) (h:j < n):rdS (markedS n a) (j:Int) = ⟨a+2*(j:Int),a+2*(j:Int)+1⟩:=by rw [rdS_nat];simp [markedS,List.getD,h]
theorem setS (l:List St) (x:St) (y:St) (t:List St):(l++x :: t).set l.length y=l++y :: t:=by
 rw [List.set_append_right _ _ (Nat.le_refl _),Nat.sub_self,List.set_cons_zero]
theorem getS (l:List St) (x:St) (t:List St):rdS (l++x :: t) (l.length:Int)=x:=by
 rw [rdS_nat];simp [List.getD]
theorem markStepS_ev (xs:List St) (a:Int) (h0:0≤a) (ha:a+2*xs.length≤4611686018427387904):Ev (fun k=>laws_markStepS.f k xs a) (a+2*xs.length,markedS xs.length a):=by
 have loop:∀ (d k i:Nat),i≤xs.length→xs.length - i=d→d < k→laws_markStepS.l0 k (markedS i a++xs.drop i) (a+2*i) i=some (a+2*xs.length,markedS xs.length a):=by
  intro d
  induction d with
  | zero=>
   intro k i h1 hd hk
   obtain ⟨k,rfl⟩ : ∃ m,k=m+1:=⟨k - 1,by omega⟩
   obtain rfl:i=xs.length:=by omega
   have hl:(markedS xs.length a++xs.drop xs.length).length=xs.length:=by simp [markedS_length]
   rw [laws_markStepS.l0,hl,if_neg (by omega)]
   simp
  | succ d ih=>
   intro k i h1 hd hk
   obtain ⟨k,rfl⟩ : ∃ m,k=m+1:=⟨k - 1,by omega⟩
   have hlt:i < xs.length:=by omega
   have hl:(markedS i a++xs.drop i).length=xs.length:=by simp [markedS_length];omega
   have hm:=markedS_length i a
   rw [laws_markStepS.l0,hl,if_pos (by omega),if_pos (by omega),Int.toNat_natCast,List.drop_eq_getElem_cons hlt]
   have e1:=setS (markedS i a) xs[i] ⟨a+2*(i:Int),(rdS (markedS i a++xs[i] :: xs.drop (i+1)) (i:Int)).f1⟩ (xs.drop (i+1))
   rw [hm] at e1
   unfold rdS at e1
   rw [e1]
   simp only [Option.bind_some]
   have e2:=getS (markedS i a) ⟨a+2*(i:Int),(rdS (markedS i a++xs[i] :: xs.drop (i+1)) (i:Int)).f1⟩ (xs.drop (i+1))
   rw [hm] at e2
   unfold rdS at e2
   rw [e2]
   have e3:=setS (markedS i a) ⟨a+2*(i:Int),(rdS (markedS i a++xs[i] :: xs.drop (i+1)) (i:Int)).f1⟩ ⟨a+2*(i:Int),a+2*(i:Int)+1⟩ (xs.drop (i+1))
   rw [hm] at e3
   unfold rdS at e3
   rw [w64 (show -9223372036854775808≤a+2*(i:Int)+1 by omega) (by omega),e3,w64 (show -9223372036854775808≤a+2*(i:Int)+1+1 by omega) (by omega),w64 (show -9223372036854775808≤(i:Int)+1 by omega) (by omega)]
   have h:=ih k (i+1) (by omega) (by omega) (by omega)
   rw [markedS_succ,List.append_assoc,List.singleton_append] at h
   have e4:a+2*((i+1:Nat):Int)=a+2*(i:Int)+1+1:=by omega
   rw [e4] at h
   exact h
 refine ⟨xs.length+1,fun k hk=>?_⟩
 have h:=loop xs.length k 0 (by omega) (by omega) (by omega)
 simpa [markedS,laws_markStepS.f] using h
theorem heldStepS_ev (n:Nat) (a:Int) (h0:0≤a) (ha:a+2*n≤4611686018427387904):Ev (fun k=>laws_heldStepS.f k (markedS n a) a) (a+2*n):=by
 have loop:∀ (d k i:Nat),i≤n→n - i=d→d < k→laws_heldStepS.l0 k (markedS n a) (a+2*i) i=some (a+2*n):=by
  intro d
  induction d with
  | zero=>
   intro k i h1 hd hk
   obtain ⟨k,rfl⟩ : ∃ m,k=m+1:=⟨k - 1,by omega⟩
   obtain rfl:i=n:=by omega
   rw [laws_heldStepS.l0,markedS_length,if_neg (by omega)]
  | succ d ih=>
   intro k i h1 hd hk
   obtain ⟨k,rfl⟩ : ∃ m,k=m+1:=⟨k - 1,by omega⟩
   have hg:=markedS_get n a i (by omega)
   unfold rdS at hg
   rw [laws_heldStepS.l0,markedS_length,if_pos (by omega),if_pos (by omega),hg,if_pos rfl,w64 (show -9223372036854775808≤a+2*(i:Int)+1 by omega) (by omega),if_pos rfl,w64 (show -9223372036854775808≤a+2*(i:Int)+1+1 by omega) (by omega),w64 (show -9223372036854775808≤(i:Int)+1 by omega) (by omega)]
   have e:a+2*(i:Int)+1+1=a+2*((i+1:Nat):Int):=by omega
   rw [e]
   exact ih k (i+1) (by omega) (by omega) (by omega)
 refine ⟨n+1,fun k hk=>?_⟩
 have h:=loop n k 0 (by omega) (by omega) (by omega)
 simpa [laws_heldStepS.f] using h
theorem markPlan_ev (n:Int) (ss:List St) (os:List Int) (h1:ss.length≤2000000) (h2:os.length≤2000000):Ev (fun k=>laws_markPlan.f k n ss os 1) (1+2*ss.length+os.length,markedS ss.length 1,marked os.length (1+2*ss.length)):=by
 unfold laws_markPlan.f
 refine ev_bind (markStepS_ev ss 1 (by omega) (by omega)) ?_
 refine ev_bind (markIntS_ev os (1+2*ss.length) (by omega) (by omega)) ?_
 exact Ev.now _
theorem heldPlan_ev (n:Int) (a b:Nat) (h1:a≤1000000) (h2:b≤1000000):Ev (fun k=>laws_heldPlan.f k n (markedS a 1) (marked b (1+2*a)) 1) (1+2*(a:Int)+b):=by
 unfold laws_heldPlan.f
 refine ev_bind (heldStepS_ev a 1 (by omega) (by omega)) ?_
 simp only [if_neg (show ¬ (1:Int)+2*(a:Int) < 0 by omega)]
 refine ev_bind (heldIntS_ev b (1+2*a) (by omega) (by omega)) ?_
 simp only [if_neg (show ¬ (1:Int)+2*(a:Int)+(b:Int) < 0 by omega)]
 exact Ev.now _
def hasFrom (ys:List Int) (x:Int):Nat→Int→Bool
 | 0,_=>false
 | d+1,i=>if rd ys i=x then true else hasFrom ys x d (i+1)
def has (ys:List Int) (x:Int):Bool:=hasFrom ys x ys.length 0
theorem hasFrom_at (ys:List Int) (x:Int):∀ (d:Nat) (i:Int),hasFrom ys x d i=true→∃ j,i≤j∧j < i+d∧rd ys j=x
 | 0,_,h=>by cases h
 | d+1,i,h=>by
  unfold hasFrom at h
  split at h
  ·rename_i c;exact ⟨i,by omega,by omega,c⟩
  ·obtain ⟨j,h1,h2,h3⟩:=hasFrom_at ys x d (i+1) h
   exact ⟨j,by omega,by omega,h3⟩
theorem hasFrom_mk (ys:List Int) (x:Int):∀ (d:Nat) (i j:Int),i≤j→j < i+d→rd ys j=x→hasFrom ys x d i=true
 | 0,_,_,_,_,_=>by omega
 | d+1,i,j,h1,h2,h3=>by
  unfold hasFrom
  split
  ·rfl
  ·rename_i c
   by_cases e:i=j
   ·subst e;exact absurd h3 c
   ·exact hasFrom_mk ys x d (i+1) j (by omega) (by omega) h3
theorem has_iff (ys:List Int) (x:Int):has ys x=true↔∃ j:Int,0≤j∧j < ys.length∧rd ys j=x:=by
 constructor
 ·intro h
  obtain ⟨j,h1,h2,h3⟩:=hasFrom_at ys x ys.length 0 h
  exact ⟨j,h1,by omega,h3⟩
 ·rintro ⟨j,h1,h2,h3⟩
  exact hasFrom_mk ys x ys.length 0 j h1 (by omega) h3
theorem l1Has_ev (ys:List Int) (x:Int) (hl:ys.length≤100000000):Ev (fun f=>spec_l1Has.f f ys x) (has ys x):=by
 have loop:∀ (d:Nat) (i:Int),0≤i→i+d=ys.length→Ev (fun f=>spec_l1Has.l0 f x ys ys.length i) (hasFrom ys x d i):=by
  intro d
  induction d with
  | zero=>
   intro i h0 hd
   refine ev_shift ?_
   simp only [spec_l1Has.l0,if_neg (show ¬ i < (ys.length:Int) by omega),hasFrom]
   exact Ev.now _
  | succ d ih=>
   intro i h0 hd
   have hn:=ih (i+1) (by omega) (by omega)
   refine ev_shift ?_
   simp only [spec_l1Has.l0,if_pos (show i < (ys.length:Int) by omega),if_pos h0,w64 (show -9223372036854775808≤i+1 by omega) (by omega)]
   unfold hasFrom
   by_cases c:rd ys i=x
   ·rw [if_pos c];simp only [if_pos c];exact Ev.now _
   ·rw [if_neg c];simp only [if_neg c];exact hn
 exact loop ys.length 0 (by omega) (by omega)
theorem rd_ne (xs:List Int) (i:Nat) (h:i < xs.length):rd xs (i:Int)=xs[i]:=by rw [rd_nat];simp [List.getD,h]
theorem has_mem (ys:List Int) (x:Int):has ys x=decide (x∈ys):=by
 rw [Bool.eq_iff_iff,decide_eq_true_iff,has_iff]
 constructor
 ·rintro ⟨j,h0,h1,h2⟩
  obtain ⟨j,rfl⟩:=Int.eq_ofNat_of_zero_le h0
  rw [rd_ne ys j (by omega)] at h2
  exact List.mem_iff_getElem.2 ⟨j,by omega,h2⟩
 ·intro h
  obtain ⟨j,h1,h2⟩:=List.mem_iff_getElem.1 h
  exact ⟨j,by omega,by omega,by rw [rd_ne ys j h1];exact h2⟩
def firstN (m:Nat):List Int:=(List.range m).map (fun j:Nat=>(j:Int))
theorem firstN_succ (m:Nat):firstN (m+1)=firstN m++[(m:Int)]:=by unfold firstN;simp [List.range_succ]
theorem firstN_length (m:Nat):(firstN m).length=m:=by unfold firstN;simp
theorem firsts_ev (m:Nat) (hm:m≤1000000):Ev (fun k=>impl_firsts.f k m) (firstN m):=by
 have loop:∀ (d i:Nat),i+d=m→Ev (fun k=>impl_firsts.l0 k (firstN i) m i) (firstN m):=by
  intro d
  induction d with
  | zero=>
   intro i hd
   obtain rfl:i=m:=by omega
   refine ev_shift ?_
   simp only [impl_firsts.l0,if_neg (show ¬ (i:Int) < (i:Int) by omega)]
   exact Ev.now _
  | succ d ih=>
   intro i hd
   refine ev_shift ?_
   simp only [impl_firsts.l0,if_pos (show (i:Int) < (m:Int) by omega),firstN_length,if_pos (show i < 17592186044416 by omega),w64 (show -9223372036854775808≤(i:Int)+1 by omega) (by omega)]
   rw [← firstN_succ]
   exact ih (i+1) (by omega)
 exact loop m 0 (by omega)
theorem renamed_ev (xs places:List Int) (hl:xs.length≤2000000) (h:∀ x∈xs,0≤x∧x < places.length):Ev (fun k=>impl_renamed.f k xs places) (xs.map (rd places)):=by
 have loop:∀ (d i:Nat),i+d=xs.length→Ev (fun k=>impl_renamed.l0 k places ((xs.take i).map (rd places)) xs xs.length i) (xs.map (rd places)):=by
  intro d
  induction d with
  | zero=>
   intro i hd
   refine ev_shift ?_
   simp only [impl_renamed.l0,if_neg (show ¬ (i:Int) < (xs.length:Int) by omega)]
   rw [List.take_of_length_le (by omega)]
   exact Ev.now _
  | succ d ih=>
   intro i hd
   have e:rd xs (i:Int)=xs[i]'(by omega):=by rw [rd_nat];simp [List.getD,show i < xs.length by omega]
   have hx:=h _ (List.getElem_mem (show i < xs.length by omega))
   rw [← e] at hx
   refine ev_shift ?_
   simp only [impl_renamed.l0,if_pos (show (i:Int) < (xs.length:Int) by omega),if_pos (show (0:Int)≤(i:Int) by omega),if_pos hx.1,if_pos hx.2,if_pos (show ((xs.take i).map (rd places)).length < 17592186044416 by simp;omega),w64 (show -9223372036854775808≤(i:Int)+1 by omega) (by omega)]
   have:=ih (i+1) (by omega)
   rw [List.take_succ_eq_append_getElem (by omega),List.map_append,← e] at this
   exact this
 exact loop xs.length 0 (by omega)
def told3 (n:Int) (ss:List St) (os:List Int):Int × List St × List Int × Bool:=if planOk n ss os=true then (n,ss,os,true) else (0,[],[],false)
theorem told3_ev (n:Int) (ss:List St) (os:List Int):Ev (fun k=>impl_told.f k n ss os) (told3 n ss os):=by
 unfold impl_told.f told3
 refine ev_bind (isPlan_ev n ss os) ?_
 by_cases c:planOk n ss os=true
 ·simp only [c,if_true];exact Ev.now _
 ·simp only [if_neg c];exact Ev.now _
def placeFrom (xs:List Int) (x:Int):Nat→Nat→Int
 | 0,_=>-1
 | d+1,i=>if rd xs (i:Int)=x then (i:Int) else placeFrom xs x d (i+1)
theorem plPlace_ev (xs:List Int) (x:Int) (hl:xs.length≤1000000):Ev (fun k=>spec_plPlace.f k xs x) (placeFrom xs x xs.length 0):=by
 have loop:∀ (d i:Nat),i+d=xs.length→Ev (fun k=>spec_plPlace.l0 k x xs xs.length i) (placeFrom xs x d i):=by
  intro d
  induction d with
  | zero=>
   intro i hd
   refine ev_shift ?_
   simp only [spec_plPlace.l0,if_neg (show ¬ (i:Int) < (xs.length:Int) by omega),placeFrom]
   exact Ev.now _
  | succ d ih=>
   intro i hd
   refine ev_shift ?_
   simp only [spec_plPlace.l0,if_pos (show (i:Int) < (xs.length:Int) by omega),if_pos (show (0:Int)≤(i:Int) by omega),w64 (show -9223372036854775808≤(i:Int)+1 by omega) (by omega),placeFrom]
   by_cases c:rd xs (i:Int)=x
   ·simp only [if_pos c];exact Ev.now _
   ·simp only [if_neg c];exact ih (i+1) (by omega)
 exact loop xs.length 0 (by omega)
theorem place_at (xs:List Int) (x:Int) (c:Nat) (hc:c < xs.length) (hx:rd xs (c:Int)=x) (hn:∀ j:Nat,j < c→rd xs (j:Int)≠x):∀ (d i:Nat),i+d=xs.length→i≤c→placeFrom xs x d i=c
 | 0,i,h1,h2=>by omega
 | d+1,i,h1,h2=>by
  rw [placeFrom]
  by_cases e:i=c
  ·subst e;rw [if_pos hx]
  ·rw [if_neg (hn i (by omega))];exact place_at xs x c hc hx hn d (i+1) (by omega) (by omega)
theorem least_mn (a b:Int):spec_l1Least.f a b=some (mn a b):=by
 unfold spec_l1Least.f mn
 split <;> split <;> first|rfl|exact congrArg some (by omega)
theorem most_mx (a b:Int):spec_l1Most.f a b=some (mx a b):=by
 unfold spec_l1Most.f mx
 split <;> split <;> first|rfl|exact congrArg some (by omega)
theorem grow_snoc (ss:List St):∀ (d:Nat) (i:Int) (rows:List (List Int)),grow ss (d+1) i rows=grow ss d i rows++[addRow (rd_L3 (grow ss d i rows) (rdS ss (i+d)).f0) (rd_L3 (grow ss d i rows) (rdS ss (i+d)).f1)]
 | 0,i,rows=>by rw [grow,grow,grow,show i+((0:Nat):Int)=i by omega]
 | d+1,i,rows=>by
  rw [grow,grow_snoc ss d (i+1),show i+1+(d:Int)=i+((d+1:Nat):Int) by omega]
  rfl
def eTo (n:Nat) (ss:List St) (i:Nat):List (List Int):=grow ss i 0 (base0 n n)
theorem eTo_succ (n:Nat) (ss:List St) (i:Nat):eTo n ss (i+1)=eTo n ss i++[addRow (rd_L3 (eTo n ss i) (rdS ss i).f0) (rd_L3 (eTo n ss i) (rdS ss i).f1)]:=by
 unfold eTo
 rw [grow_snoc,Int.zero_add]
theorem eTo_length (n:Nat) (ss:List St):∀ i,(eTo n ss i).length=n+i
 | 0=>base0_length n n
 | i+1=>by rw [eTo_succ,List.length_append,List.length_singleton,eTo_length n ss i];rfl
theorem sumFrom_comm (a b:List Int):∀ d k,sumFrom a b d k=sumFrom b a d k
 | 0,_=>rfl
 | d+1,k=>by rw [sumFrom,sumFrom,sumFrom_comm a b d,Int.add_comm]
theorem addRow_comm (a b:List Int) (h:a.length=b.length):addRow a b=addRow b a:=by unfold addRow;rw [h,sumFrom_comm]
theorem rdL_left (A:List (List Int)) (x:List Int) (v:Int) (h0:0≤v) (h:v < A.length):rd_L3 (A++[x]) v=rd_L3 A v:=by
 unfold rd_L3
 rw [List.getD_eq_getElem?_getD,List.getD_eq_getElem?_getD,List.getElem?_append_left (by omega)]
theorem rdL_last (A:List (List Int)) (x:List Int):rd_L3 (A++[x]) (A.length:Int)=x:=by
 unfold rd_L3
 rw [Int.toNat_natCast]
 simp [List.getD]
theorem mnmx (a b:Int):(mn a b=a∧mx a b=b∧a≤b)∨(mn a b=b∧mx a b=a∧b≤a):=by
 unfold mn mx
 by_cases h:a≤b
 ·by_cases h2:b≤a
  ·have:a=b:=by omega
   subst this
   left;simp
  ·left;refine ⟨?_,?_,h⟩ <;> simp <;> omega
 ·right;refine ⟨?_,?_,by omega⟩ <;> simp <;> omega
theorem exps_eTo (m:Nat) (ss:List St):exps m ss=eTo m ss ss.length:=rfl
def rnum (m:Nat) (ls:List Int) (v:Int):Int:=if v < m then v else (m:Int)+placeFrom ls (v - m) ls.length 0
def rStep (m:Nat) (ss:List St) (ls:List Int) (i:Int):St:=⟨mn (rnum m ls (rdS ss i).f0) (rnum m ls (rdS ss i).f1),mx (rnum m ls (rdS ss i).f0) (rnum m ls (rdS ss i).f1)⟩
def rSteps (m:Nat) (ss:List St) (ls:List Int):List St:=ls.map (rStep m ss ls)
structure Perm (L:Nat) (ls:List Int):Prop where
 len:ls.length=L
 box:∀ x∈ls,0≤x∧x < L
 one:ls.Nodup
def depOk (m:Nat) (ss:List St) (ls:List Int) (k:Nat):Prop:=((rdS ss (rd ls (k:Int))).f0 < m∨(rdS ss (rd ls (k:Int))).f0 - m∈ls.take k)∧((rdS ss (rd ls (k:Int))).f1 < m∨(rdS ss (rd ls (k:Int))).f1 - m∈ls.take k)
theorem nodup_get (ls:List Int) (h:ls.Nodup) (i j:Nat) (hi:i < ls.length) (hj:j < ls.length) (e:ls[i]=ls[j]):i=j:=by
 rw [List.nodup_iff_pairwise_ne] at h
 rw [List.pairwise_iff_getElem] at h
 rcases Nat.lt_trichotomy i j with c|c|c
 ·exact absurd e (h i j hi hj c)
 ·exact c
 ·exact absurd e.symm (h j i hj hi c)
theorem place_get (ls:List Int) (h:ls.Nodup) (k:Nat) (hk:k < ls.length):placeFrom ls (rd ls (k:Int)) ls.length 0=k:=by
 refine place_at ls _ k hk rfl (fun j hj e=>?_) ls.length 0 (by omega) (by omega)
 rw [rd_ne ls j (by omega),rd_ne ls k hk] at e
 have:=nodup_get ls h j k (by omega) hk e
 omega
theorem mem_take {ls:List Int} {x:Int} {k:Nat} (h:x∈ls.take k) : ∃ j:Nat,j < k∧j < ls.length∧rd ls (j:Int)=x:=by
 obtain ⟨j,hj,e⟩:=List.getElem_of_mem h
 rw [List.length_take] at hj
 rw [List.getElem_take] at e
 exact ⟨j,by omega,by omega,by rw [rd_ne ls j (by omega)];exact e⟩
theorem take_mem {ls:List Int} {j k:Nat} (h:j < k) (hj:j < ls.length):rd ls (j:Int)∈ls.take k:=by
 rw [rd_ne ls j hj]
 exact List.mem_iff_getElem.2 ⟨j,by rw [List.length_take];omega,by rw [List.getElem_take]⟩
theorem rise_first:∀ (L:Nat) (l:List Int),l.length=L→l.Pairwise (· < ·)→(∀ x∈l,0≤x∧x < L)→l=firstN L:=by
 intro L l hl hp hb
 have lo:∀ i:Nat,∀ h:i < l.length,(i:Int)≤l[i]:=by
  intro i
  induction i with
  | zero=>intro h;exact (hb _ (List.getElem_mem h)).1
  | succ i ih=>
   intro h
   have:=ih (by omega)
   have:=(List.pairwise_iff_getElem.1 hp) i (i+1) (by omega) h (by omega)
   omega
 have hi:∀ d i:Nat,i+d+1=l.length→∀ h:i < l.length,l[i]+d < L:=by
  intro d
  induction d with
  | zero=>intro i _ h;have:=(hb _ (List.getElem_mem h)).2;omega
  | succ d ih=>
   intro i hd h
   have:=ih (i+1) (by omega) (by omega)
   have:=(List.pairwise_iff_getElem.1 hp) i (i+1) h (by omega) (by omega)
   omega
 apply List.ext_getElem?
 intro i
 by_cases h1:i < l.length
 ·have a:=lo i h1
  have b:=hi (l.length - i - 1) i (by omega) h1
  have e:(firstN L)[i]? = some (i:Int):=by unfold firstN;rw [List.getElem?_map,List.getElem?_range (by omega)];rfl
  rw [e,List.getElem?_eq_getElem h1]
  congr 1
  omega
 ·rw [List.getElem?_eq_none (by omega),List.getElem?_eq_none (by rw [firstN_length];omega)]
theorem perm_sorted {L:Nat} {ls:List Int} (h:Perm L ls):impl_isOrder.sorted ls=firstN L:=by
 unfold impl_isOrder.sorted
 have hpm:=List.mergeSort_perm ls (fun x y=>decide (x≤y))
 have hs:(ls.mergeSort fun x y=>decide (x≤y)).Pairwise (fun a b=>decide (a≤b)=true):=List.pairwise_mergeSort (fun a b c h1 h2=>by simp at *;omega) (fun a b=>by simp;omega) ls
 have hn:(ls.mergeSort fun x y=>decide (x≤y)).Nodup:=hpm.nodup_iff.2 h.one
 refine rise_first L _ (by rw [hpm.length_eq];exact h.len) ?_ (fun x hx=>h.box x (hpm.mem_iff.1 hx))
 rw [List.nodup_iff_pairwise_ne] at hn
 refine (hs.and hn).imp (fun {a b} h=>?_)
 have h1:a≤b:=of_decide_eq_true h.1
 have h2:=h.2
 omega
theorem sorted_perm {L:Nat} {ls:List Int} (h:impl_isOrder.sorted ls=firstN L):Perm L ls:=by
 have hpm:=List.mergeSort_perm ls (fun x y=>decide (x≤y))
 have hf:(ls.mergeSort fun x y=>decide (x≤y))=firstN L:=h
 rw [hf] at hpm
 refine ⟨by rw [← hpm.length_eq,firstN_length],fun x hx=>?_,hpm.nodup_iff.1 ?_⟩
 ·have:=hpm.mem_iff.2 hx
  unfold firstN at this
  obtain ⟨j,hj,rfl⟩:=List.mem_map.1 this
  have:=List.mem_range.1 hj
  omega
 ·unfold firstN
  rw [List.nodup_iff_pairwise_ne,List.pairwise_map]
  exact List.Pairwise.imp (fun h e=>h (by omega)) (List.nodup_iff_pairwise_ne.1 List.nodup_range)
theorem perm_all {L:Nat} {ls:List Int} (h:Perm L ls) (i:Nat) (hi:i < L) : ∃ k:Nat,k < ls.length∧rd ls (k:Int)=i:=by
 have hs:=perm_sorted h
 have hpm:=List.mergeSort_perm ls (fun x y=>decide (x≤y))
 have hf:(ls.mergeSort fun x y=>decide (x≤y))=firstN L:=hs
 rw [hf] at hpm
 have:(i:Int)∈ls:=hpm.mem_iff.1 (by unfold firstN;exact List.mem_map.2 ⟨i,List.mem_range.2 hi,rfl⟩)
 obtain ⟨k,hk,e⟩:=List.getElem_of_mem this
 exact ⟨k,hk,by rw [rd_ne ls k hk];exact e⟩
theorem rnum_box {m L:Nat} {ls:List Int} (h:Perm L ls) (v:Int) (h0:0≤v) (h1:v < (m:Int)+L):0≤rnum m ls v∧rnum m ls v < (m:Int)+L:=by
 unfold rnum
 by_cases c:v < m
 ·rw [if_pos c];omega
 ·rw [if_neg c]
  obtain ⟨k,hk,e⟩:=perm_all h (v - m).toNat (by omega)
  have e2:v - m=rd ls (k:Int):=by rw [e];omega
  rw [e2,place_get ls h.one k hk]
  have:=h.len
  omega
theorem rnum_before {m L:Nat} {ls:List Int} (h:Perm L ls) (v:Int) (h0:0≤v) (h1:v < (m:Int)+L) (k:Nat):rnum m ls v < (m:Int)+k↔(v < m∨v - m∈ls.take k):=by
 unfold rnum
 by_cases c:v < m
 ·rw [if_pos c]
  exact ⟨fun _=>.inl c,fun _=>by omega⟩
 ·rw [if_neg c]
  obtain ⟨j,hj,e⟩:=perm_all h (v - m).toNat (by omega)
  have e2:v - m=rd ls (j:Int):=by rw [e];omega
  rw [e2,place_get ls h.one j hj]
  constructor
  ·intro hlt
   exact .inr (take_mem (by omega) hj)
  ·rintro (q|q)
   ·omega
   ·obtain ⟨i,h1,h2,h3⟩:=mem_take q
    rw [rd_ne ls i h2,rd_ne ls j hj] at h3
    have:=nodup_get ls h.one i j h2 hj h3
    omega
theorem rSteps_len (m:Nat) (ss:List St) (ls:List Int):(rSteps m ss ls).length=ls.length:=by unfold rSteps;rw [List.length_map]
theorem rSteps_at (m:Nat) (ss:List St) (ls:List Int) (k:Nat) (hk:k < ls.length):rdS (rSteps m ss ls) (k:Int)=rStep m ss ls (rd ls (k:Int)):=by
 unfold rdS rd_T73 rSteps
 rw [Int.toNat_natCast,List.getD_eq_getElem?_getD,List.getElem?_map,List.getElem?_eq_getElem hk,rd_ne ls k hk]
 rfl
theorem mx_lt (a b c:Int):mx a b < c↔a < c∧b < c:=by unfold mx;split <;> omega
theorem mn_ge (a b c:Int):c≤mn a b↔c≤a∧c≤b:=by unfold mn;split <;> omega
theorem mn_mx (a b:Int):mn a b≤mx a b:=by unfold mn mx;split <;> split <;> omega
theorem order_iff {m:Nat} {ss:List St} {ls:List Int} (ho:InOrder m ss) (h:Perm ss.length ls):InOrder m (rSteps m ss ls)↔∀ k:Nat,k < ss.length→depOk m ss ls k:=by
 have facts:∀ k:Nat,k < ss.length→0≤rnum m ls (rdS ss (rd ls (k:Int))).f0∧0≤rnum m ls (rdS ss (rd ls (k:Int))).f1∧((rdS (rSteps m ss ls) (k:Int)).f1 < (m:Int)+k↔depOk m ss ls k):=by
  intro k hk
  have hkl:k < ls.length:=by rw [h.len];exact hk
  have hb:=h.box _ (List.getElem_mem hkl)
  rw [← rd_ne ls k hkl] at hb
  obtain ⟨i,hi⟩ : ∃ i:Nat,rd ls (k:Int)=i:=⟨(rd ls (k:Int)).toNat,by omega⟩
  have hik:i < ss.length:=by omega
  obtain ⟨k1,k2,k3⟩:=ho i hik
  have k1' : 0≤(rdS ss i).f0:=k1
  have k2' : (rdS ss i).f0≤(rdS ss i).f1:=k2
  have k3' : (rdS ss i).f1 < (m:Int)+i:=k3
  have b0:=rnum_box (m:=m) h (rdS ss i).f0 k1' (by omega)
  have b1:=rnum_box (m:=m) h (rdS ss i).f1 (by omega) (by omega)
  have c0:=rnum_before (m:=m) h (rdS ss i).f0 k1' (by omega) k
  have c1:=rnum_before (m:=m) h (rdS ss i).f1 (by omega) (by omega) k
  rw [rSteps_at m ss ls k hkl]
  unfold depOk rStep
  rw [hi]
  refine ⟨b0.1,b1.1,?_⟩
  show mx _ _ < _↔_
  rw [mx_lt,c0,c1]
 constructor
 ·intro hio k hk
  exact (facts k hk).2.2.1 (hio k (by rw [rSteps_len,h.len];exact hk)).2.2
 ·intro hd k hk
  have hk' : k < ss.length:=by rw [rSteps_len,h.len] at hk;exact hk
  obtain ⟨a,b,c⟩:=facts k hk'
  refine ⟨?_,?_,c.2 (hd k hk')⟩
  ·show 0≤(rdS (rSteps m ss ls) (k:Int)).f0
   rw [rSteps_at m ss ls k (by rw [h.len];exact hk')]
   exact (mn_ge _ _ _).2 ⟨a,b⟩
  ·show (rdS (rSteps m ss ls) (k:Int)).f0≤(rdS (rSteps m ss ls) (k:Int)).f1
   rw [rSteps_at m ss ls k (by rw [h.len];exact hk')]
   exact mn_mx _ _
theorem exps_step (m:Nat) (ss:List St) (ho:InOrder m ss):∀ (d i:Nat),i+1+d=ss.length→∀ n,i < n→n≤ss.length→rd_L3 (eTo m ss n) ((m:Int)+i)=addRow (rd_L3 (eTo m ss i) (rdS ss i).f0) (rd_L3 (eTo m ss i) (rdS ss i).f1):=by
 intro d i hi n
 induction n with
 | zero=>intro h;omega
 | succ n ih=>
  intro h1 h2
  rw [eTo_succ]
  have hl:=eTo_length m ss n
  by_cases e:i=n
  ·subst e
   rw [show (m:Int)+i=((eTo m ss i).length:Int) by rw [hl];omega,rdL_last]
  ·rw [rdL_left _ _ _ (by omega) (by rw [hl];omega)]
   exact ih (by omega) (by omega)
theorem eTo_keep (m:Nat) (ss:List St) (v:Int) (h0:0≤v):∀ (d i:Nat),v < (m:Int)+i→rd_L3 (eTo m ss (i+d)) v=rd_L3 (eTo m ss i) v
 | 0,_,_=>rfl
 | d+1,i,h=>by
  have hl:=eTo_length m ss (i+d)
  rw [← Nat.add_assoc,eTo_succ,rdL_left _ _ _ h0 (by rw [hl];omega)]
  exact eTo_keep m ss v h0 d i h
theorem exps_at (m:Nat) (ss:List St) (ho:InOrder m ss) (i:Nat) (hi:i < ss.length):rd_L3 (exps m ss) ((m:Int)+i)=addRow (rd_L3 (exps m ss) (rdS ss i).f0) (rd_L3 (exps m ss) (rdS ss i).f1):=by
 obtain ⟨k1,k2,k3⟩:=ho i hi
 have k1' : 0≤(rdS ss i).f0:=k1
 have k2' : (rdS ss i).f0≤(rdS ss i).f1:=k2
 have k3' : (rdS ss i).f1 < (m:Int)+i:=k3
 rw [exps_eTo,exps_step m ss ho (ss.length - i - 1) i (by omega) ss.length hi (Nat.le_refl _)]
 have e0:=eTo_keep m ss (rdS ss i).f0 k1' (ss.length - i) i (by omega)
 have e1:=eTo_keep m ss (rdS ss i).f1 (by omega) (ss.length - i) i (by omega)
 rw [show i+(ss.length - i)=ss.length by omega] at e0 e1
 rw [e0,e1]
theorem order_exps (m:Nat) (ss:List St) (ls:List Int) (ho:InOrder m ss) (h:Perm ss.length ls) (hd:∀ k:Nat,k < ss.length→depOk m ss ls k):∀ (k:Nat),k≤ss.length→∀ v:Int,0≤v→v < (m:Int)+ss.length→rnum m ls v < (m:Int)+k→rd_L3 (eTo m (rSteps m ss ls) k) (rnum m ls v)=rd_L3 (exps m ss) v:=by
 intro k
 induction k with
 | zero=>
  intro _ v h0 h1 hlt
  have c:v < m:=by
   rcases (rnum_before h v h0 h1 0).1 (by omega) with q|q
   ·exact q
   ·simp at q
  unfold rnum
  rw [if_pos c,exps_eTo]
  have:=eTo_keep m ss v h0 ss.length 0 (by omega)
  rw [Nat.zero_add] at this
  rw [this]
  rfl
 | succ k ih=>
  intro hk v h0 h1 hlt
  have ih:=ih (by omega)
  have hl:=eTo_length m (rSteps m ss ls) k
  have hkl:k < ls.length:=by rw [h.len];omega
  rw [eTo_succ]
  by_cases e:rnum m ls v=(m:Int)+k
  ·rw [show rnum m ls v=((eTo m (rSteps m ss ls) k).length:Int) by rw [hl,e];omega,rdL_last,rSteps_at m ss ls k hkl]
   have hb:=h.box _ (List.getElem_mem hkl)
   rw [← rd_ne ls k hkl] at hb
   have hv:v=(m:Int)+rd ls (k:Int):=by
    unfold rnum at e
    by_cases c:v < m
    ·rw [if_pos c] at e;omega
    ·rw [if_neg c] at e
     obtain ⟨j,hj,ej⟩:=perm_all h (v - m).toNat (by omega)
     have e2:v - m=rd ls (j:Int):=by rw [ej];omega
     rw [e2,place_get ls h.one j hj] at e
     have:j=k:=by omega
     subst this
     omega
   obtain ⟨i,hi⟩ : ∃ i:Nat,rd ls (k:Int)=i:=⟨(rd ls (k:Int)).toNat,by omega⟩
   have hik:i < ss.length:=by omega
   obtain ⟨k1,k2,k3⟩:=ho i hik
   have k1' : 0≤(rdS ss i).f0:=k1
   have k2' : (rdS ss i).f0≤(rdS ss i).f1:=k2
   have k3' : (rdS ss i).f1 < (m:Int)+i:=k3
   have dk:=hd k (by omega)
   unfold depOk at dk
   rw [hi] at dk hv
   have b0:=(rnum_before (m:=m) h (rdS ss i).f0 k1' (by omega) k).2 dk.1
   have b1:=(rnum_before (m:=m) h (rdS ss i).f1 (by omega) (by omega) k).2 dk.2
   have i0:=ih (rdS ss i).f0 k1' (by omega) b0
   have i1:=ih (rdS ss i).f1 (by omega) (by omega) b1
   have rr:=exps_ok m ss ho
   have r0:=rr.2 _ (rd_mem _ (rdS ss i).f0 k1' (by rw [rr.1];omega))
   have r1:=rr.2 _ (rd_mem _ (rdS ss i).f1 (by omega) (by rw [rr.1];omega))
   rw [hv,exps_at m ss ho i hik,hi]
   unfold rStep
   rcases mnmx (rnum m ls (rdS ss i).f0) (rnum m ls (rdS ss i).f1) with ⟨q0,q1,_⟩|⟨q0,q1,_⟩
   ·show addRow (rd_L3 _ (mn _ _)) (rd_L3 _ (mx _ _))=_
    rw [q0,q1,i0,i1]
   ·show addRow (rd_L3 _ (mn _ _)) (rd_L3 _ (mx _ _))=_
    rw [q0,q1,i0,i1]
    exact addRow_comm _ _ (by rw [r0.1,r1.1])
  ·have hb:=rnum_box (m:=m) h v h0 h1
   rw [rdL_left _ _ _ hb.1 (by rw [hl];omega)]
   exact ih v h0 h1 (by omega)
theorem order_sub (m:Nat) (ss:List St) (ls:List Int) (ho:InOrder m ss) (h:Perm ss.length ls) (hd:∀ k:Nat,k < ss.length→depOk m ss ls k):∀ r∈exps m (rSteps m ss ls),r∈exps m ss:=by
 intro r hr
 obtain ⟨j,hj,rfl⟩:=List.mem_iff_getElem.1 hr
 have hlr:(rSteps m ss ls).length=ss.length:=by rw [rSteps_len,h.len]
 have hlT:(exps m (rSteps m ss ls)).length=m+ss.length:=by rw [exps_eTo,eTo_length,hlr]
 have hl:(exps m ss).length=m+ss.length:=eTo_length _ _ _
 have er:rd_L3 (exps m (rSteps m ss ls)) (j:Int)=(exps m (rSteps m ss ls))[j]:=by unfold rd_L3;rw [Int.toNat_natCast];simp [List.getD,hj]
 rw [← er]
 have key:∀ v:Int,0≤v→v < (m:Int)+ss.length→rnum m ls v=j→rd_L3 (exps m (rSteps m ss ls)) (j:Int)∈exps m ss:=by
  intro v h0 h1 e
  have:=order_exps m ss ls ho h hd ss.length (Nat.le_refl _) v h0 h1 (by rw [e];omega)
  rw [e] at this
  have e3:exps m (rSteps m ss ls)=eTo m (rSteps m ss ls) ss.length:=by rw [exps_eTo,hlr]
  rw [e3,this]
  exact rd_mem _ _ h0 (by rw [hl];omega)
 by_cases c:j < m
 ·exact key j (by omega) (by omega) (by unfold rnum;rw [if_pos (by omega)])
 ·have hjl:j - m < ls.length:=by rw [h.len];omega
  have hb:=h.box _ (List.getElem_mem hjl)
  rw [← rd_ne ls (j - m) hjl] at hb
  refine key ((m:Int)+rd ls ((j - m:Nat):Int)) (by omega) (by omega) ?_
  unfold rnum
  rw [if_neg (by omega),show (m:Int)+rd ls ((j - m:Nat):Int) - m=rd ls ((j - m:Nat):Int) by omega,place_get ls h.one (j - m) hjl]
  omega
theorem all_ok (ys:List Int) (a b:Int) (hh:∀ y∈ys,a≤y∧y≤b):allFrom ys a b ys.length 0=true:=by
 have loop:∀ (d i:Nat),i+d=ys.length→allFrom ys a b d i=true:=by
  intro d
  induction d with
  | zero=>intro i _;rfl
  | succ d ih=>
   intro i hd
   rw [allFrom,if_pos (by rw [rd_nat,show ys.getD i 0=ys[i]'(by omega) by simp [List.getD,show i < ys.length by omega]];exact hh _ (List.getElem_mem _))]
   exact ih (i+1) (by omega)
 exact loop ys.length 0 (by omega)
theorem steps_true (m:Nat) (ss:List St):∀ (d i:Nat),(∀ j,i≤j→j < i+d→0≤(rdS ss j).f0∧(rdS ss j).f0≤(rdS ss j).f1∧(rdS ss j).f1 < (m:Int)+j)→impl_IsPlan.steps m ss d i=true
 | 0,_,_=>rfl
 | d+1,i,h=>by
  obtain ⟨h1,h2,h3⟩:=h i (Nat.le_refl _) (by omega)
  unfold impl_IsPlan.steps
  rw [if_neg (show ¬ (rd_T73 ss (i:Int)).f0 < 0 from Int.not_lt.2 h1),if_neg (show ¬ (rd_T73 ss (i:Int)).f0 > (rd_T73 ss (i:Int)).f1 from Int.not_lt.2 h2),if_neg (show ¬ (rd_T73 ss (i:Int)).f1 ≥ (m:Int)+i from Int.not_le.2 h3)]
  exact steps_true m ss d (i+1) (fun j a b=>h j (by omega) (by omega))
theorem planOk_mk {m:Nat} {ss:List St} {os:List Int} (h1:1≤m) (h2:m≤6) (h3:ss.length≤40) (h4:os.length≤6) (ho:InOrder m ss) (hos:∀ x∈os,0≤x∧x < (m:Int)+ss.length) (he:∀ r∈exps m ss,∀ e∈r,0≤e∧e≤1000000):planOk m ss os=true:=by
 unfold planOk
 rw [Bool.and_eq_true]
 constructor
 ·unfold impl_IsPlan.formed
  have hst:impl_IsPlan.steps m ss ss.length 0=true:=steps_true m _ _ 0 (fun j _ hj=>ho j (by omega))
  rw [if_pos (by omega),if_pos h3,if_pos h4,if_pos hst,outs_all,Bool.not_not]
  exact all_ok _ _ _ (fun y hy=>by have:=hos y hy;omega)
 ·rw [Int.toNat_natCast,goodFrom_eq,List.all_eq_true]
  intro r hr
  exact all_ok r 0 1000000 (he r hr)
def good (m:Nat) (ss:List St) (ls:List Int):Prop:=Perm ss.length ls∧∀ k:Nat,k < ss.length→depOk m ss ls k
open Classical in
noncomputable def ansGood (m:Nat) (ss:List St) (os:List Int) (ls:List Int):Int × List St × List Int × Bool:=if good m ss ls then ((m:Int),rSteps m ss ls,os.map (rnum m ls),true) else (0,[],[],false)
theorem ansGood_pos {m:Nat} {ss:List St} {os:List Int} {ls:List Int} (g:good m ss ls):ansGood m ss os ls=((m:Int),rSteps m ss ls,os.map (rnum m ls),true):=by unfold ansGood;rw [if_pos g]
theorem ansGood_neg {m:Nat} {ss:List St} {os:List Int} {ls:List Int} (g : ¬ good m ss ls):ansGood m ss os ls=(0,[],[],false):=by unfold ansGood;rw [if_neg g]
noncomputable def answer (n:Int) (ss:List St) (os:List Int) (ls:List Int):Int × List St × List Int × Bool:=
 if planOk n ss os=true then ansGood n.toNat ss os ls else (0,[],[],false)
def ordFrom (m:Nat) (ss:List St) (ls:List Int):Nat→Nat→Bool
 | 0,_=>true
 | d+1,k=>if 0≤rd ls (k:Int)∧rd ls (k:Int)≤(ss.length:Int) - 1 then (if has (ls.take k) (rd ls (k:Int))=true then false else if (rdS ss (rd ls (k:Int))).f0 ≥ (m:Int)∧has (ls.take k) ((rdS ss (rd ls (k:Int))).f0 - m)=false then false else if (rdS ss (rd ls (k:Int))).f1 ≥ (m:Int)∧has (ls.take k) ((rdS ss (rd ls (k:Int))).f1 - m)=false then false else ordFrom m ss ls d (k+1)) else false
theorem ordFrom_iff (m:Nat) (ss:List St) (ls:List Int):∀ d k,ordFrom m ss ls d k=true↔∀ j,k≤j→j < k+d→(0≤rd ls (j:Int)∧rd ls (j:Int)≤(ss.length:Int) - 1)∧rd ls (j:Int) ∉ ls.take j∧depOk m ss ls j
 | 0,k=>⟨fun _ j h1 h2=>by omega,fun _=>rfl⟩
 | d+1,k=>by
  have ih:=ordFrom_iff m ss ls d (k+1)
  have here:((0≤rd ls (k:Int)∧rd ls (k:Int)≤(ss.length:Int) - 1)∧rd ls (k:Int) ∉ ls.take k∧depOk m ss ls k)∧ordFrom m ss ls d (k+1)=true↔ordFrom m ss ls (d+1) k=true:=by
   unfold depOk
   rw [ordFrom]
   rw [has_mem,has_mem,has_mem]
   by_cases c1:0≤rd ls (k:Int)∧rd ls (k:Int)≤(ss.length:Int) - 1
   ·rw [if_pos c1]
    by_cases c2:rd ls (k:Int)∈ls.take k
    ·rw [if_pos (decide_eq_true c2)]
     exact ⟨fun h=>absurd c2 h.1.2.1,fun h=>by cases h⟩
    ·rw [if_neg (by simpa using c2)]
     by_cases c3:(rdS ss (rd ls (k:Int))).f0 < m∨(rdS ss (rd ls (k:Int))).f0 - m∈ls.take k
     ·rw [if_neg (fun hh=>by rcases c3 with q|q;exact absurd hh.1 (by omega);exact absurd (decide_eq_true q) (by rw [hh.2];decide))]
      by_cases c4:(rdS ss (rd ls (k:Int))).f1 < m∨(rdS ss (rd ls (k:Int))).f1 - m∈ls.take k
      ·rw [if_neg (fun hh=>by rcases c4 with q|q;exact absurd hh.1 (by omega);exact absurd (decide_eq_true q) (by rw [hh.2];decide))]
       exact ⟨fun h=>h.2,fun h=>⟨⟨c1,c2,c3,c4⟩,h⟩⟩
      ·rw [if_pos ⟨by omega,by simp;exact fun q=>c4 (.inr q)⟩]
       exact ⟨fun h=>absurd h.1.2.2.2 c4,fun h=>by cases h⟩
     ·rw [if_pos ⟨by omega,by simp;exact fun q=>c3 (.inr q)⟩]
      exact ⟨fun h=>absurd h.1.2.2.1 c3,fun h=>by cases h⟩
   ·rw [if_neg c1]
    exact ⟨fun h=>absurd h.1.1 c1,fun h=>by cases h⟩
  rw [← here,ih]
  constructor
  ·rintro ⟨a,b⟩ j h1 h2
   by_cases e:j=k
   ·subst e;exact a
   ·exact b j (by omega) (by omega)
  ·intro h
   exact ⟨h k (Nat.le_refl _) (by omega),fun j h1 h2=>h j (by omega) (by omega)⟩
theorem good_iff (m:Nat) (ss:List St) (ls:List Int):good m ss ls↔(ls.length=ss.length∧ordFrom m ss ls ls.length 0=true):=by
 rw [ordFrom_iff]
 constructor
 ·rintro ⟨h,hd⟩
  refine ⟨h.len,fun j _ hj=>?_⟩
  have hjl:j < ls.length:=by omega
  have hb:=h.box _ (List.getElem_mem hjl)
  rw [← rd_ne ls j hjl] at hb
  refine ⟨by omega,fun hm=>?_,hd j (by have:=h.len;omega)⟩
  obtain ⟨i,h1,h2,h3⟩:=mem_take hm
  rw [rd_ne ls i h2,rd_ne ls j hjl] at h3
  have:=nodup_get ls h.one i j h2 hjl h3
  omega
 ·rintro ⟨hl,h⟩
  refine ⟨⟨hl,fun x hx=>?_,?_⟩,fun k hk=>(h k (Nat.zero_le _) (by omega)).2.2⟩
  ·obtain ⟨j,hj,rfl⟩:=List.getElem_of_mem hx
   have:=(h j (Nat.zero_le _) (by omega)).1
   rw [rd_ne ls j hj] at this
   omega
  ·rw [List.nodup_iff_pairwise_ne,List.pairwise_iff_getElem]
   intro i j hi hj hij e
   have:=(h j (Nat.zero_le _) (by omega)).2.1
   refine this ?_
   have e2:=take_mem (k:=j) hij hi
   rw [rd_ne ls i hi,e] at e2
   rw [rd_ne ls j hj]
   exact e2
theorem plOrder_ev (m:Nat) (ss:List St) (os ls:List Int) (hm:m≤6) (hs:ss.length≤40) (ho:InOrder m ss) (hl:ls.length=ss.length):∀ (d k:Nat),k+d=ls.length→Ev (fun f=>spec_plOrder.l0 f ls ls ls.length k m ss os) (ordFrom m ss ls d k):=by
 intro d
 induction d with
 | zero=>
  intro k hk
  refine ev_shift ?_
  simp only [spec_plOrder.l0,if_neg (show ¬ (k:Int) < (ls.length:Int) by omega),ordFrom]
  exact Ev.now _
 | succ d ih=>
  intro k hk
  have hn:=ih (k+1) (by omega)
  have w0:wrap64 ((ss.length:Int) - 1)=(ss.length:Int) - 1:=w64 (by omega) (by omega)
  have w1:wrap64 ((k:Int)+1)=((k+1:Nat):Int):=by rw [w64 (by omega) (by omega)];omega
  have htl:(ls.take k).length≤100000000:=by rw [List.length_take];omega
  refine ev_shift ?_
  simp only [spec_plOrder.l0,if_pos (show (k:Int) < (ls.length:Int) by omega),if_pos (show (0:Int)≤(k:Int) by omega),w0,l1In_eq,Option.bind_some]
  rw [ordFrom]
  have stop:Ev (fun f=>spec_plOrder.j1 f ls (k:Int) (rd ls (k:Int)) ls ls.length (k:Int) true m ss os) false:=by
   refine ev_shift ?_
   simp only [spec_plOrder.j1,if_true]
   exact Ev.now _
  by_cases c1:0≤rd ls (k:Int)∧rd ls (k:Int)≤(ss.length:Int) - 1
  ·have e1:(decide (0≤rd ls (k:Int)) && decide (rd ls (k:Int)≤(ss.length:Int) - 1))=true:=by simp [c1]
   simp only [e1,if_true,if_pos c1,if_pos (show (k:Int)≤(ls.length:Int) by omega),Int.toNat_natCast]
   refine ev_bind (l1Has_ev (ls.take k) _ htl) ?_
   by_cases c2:has (ls.take k) (rd ls (k:Int))=true
   ·simp only [if_pos c2]
    rw [c2]
    exact stop
   ·have e2:has (ls.take k) (rd ls (k:Int))=false:=by simpa using c2
    simp only [if_neg c2]
    rw [e2]
    obtain ⟨i,hi⟩ : ∃ i:Nat,rd ls (k:Int)=i:=⟨(rd ls (k:Int)).toNat,by omega⟩
    have hik:i < ss.length:=by omega
    obtain ⟨k1,k2,k3⟩:=ho i hik
    have k1' : 0≤(rdS ss i).f0:=k1
    have k2' : (rdS ss i).f0≤(rdS ss i).f1:=k2
    have k3' : (rdS ss i).f1 < (m:Int)+i:=k3
    rw [hi]
    have v0:wrap64 ((rdS ss i).f0 - m)=(rdS ss i).f0 - m:=w64 (by omega) (by omega)
    have v1:wrap64 ((rdS ss i).f1 - m)=(rdS ss i).f1 - m:=w64 (by omega) (by omega)
    have er:rd_T73 ss (i:Int)=rdS ss i:=rfl
    refine ev_shift ?_
    simp only [spec_plOrder.j1,Bool.false_eq_true,if_false,if_pos (show (0:Int)≤(i:Int) by omega),if_pos (show (i:Int) < (ss.length:Int) by omega),er,v0,v1,w1,if_pos (show (0:Int)≤(k:Int) by omega),if_pos (show (k:Int)≤(ls.length:Int) by omega),Int.toNat_natCast]
    have h0:=l1Has_ev (ls.take k) ((rdS ss i).f0 - m) htl
    have h1:=l1Has_ev (ls.take k) ((rdS ss i).f1 - m) htl
    have second:Ev (fun f=>if (rdS ss i).f1 ≥ (m:Int) then ((spec_l1Has.f f (ls.take k) ((rdS ss i).f1 - m)).bind fun t=>if t=true then spec_plOrder.l0 f ls ls ls.length ((k+1:Nat):Int) m ss os else some false) else spec_plOrder.l0 f ls ls ls.length ((k+1:Nat):Int) m ss os) (if (rdS ss i).f1 ≥ (m:Int)∧has (ls.take k) ((rdS ss i).f1 - m)=false then false else ordFrom m ss ls d (k+1)):=by
     by_cases c4:(rdS ss i).f1 ≥ (m:Int)
     ·simp only [if_pos c4]
      refine ev_bind h1 ?_
      cases hh:has (ls.take k) ((rdS ss i).f1 - m) with
      | true=>simp only [if_true];rw [if_neg (by simp)];exact hn
      | false=>simp only [Bool.false_eq_true,if_false];rw [if_pos ⟨c4,by trivial⟩];exact Ev.now _
     ·simp only [if_neg c4]
      rw [if_neg (fun h=>c4 h.1)]
      exact hn
    by_cases c3:(rdS ss i).f0 ≥ (m:Int)
    ·simp only [if_pos c3]
     refine ev_bind h0 ?_
     cases hh:has (ls.take k) ((rdS ss i).f0 - m) with
     | true=>simp only [if_true];rw [if_neg (by simp)];exact second
     | false=>simp only [Bool.false_eq_true,if_false];rw [if_pos ⟨c3,by trivial⟩];exact Ev.now _
    ·simp only [if_neg c3]
     rw [if_neg (fun h=>c3 h.1)]
     by_cases c4:(rdS ss i).f1 ≥ (m:Int)
     ·simp only [if_pos c4] at second ⊢
      exact second
     ·simp only [if_neg c4] at second ⊢
      exact second
  ·have e1:(decide (0≤rd ls (k:Int)) && decide (rd ls (k:Int)≤(ss.length:Int) - 1))=false:=by
    rw [Bool.and_eq_false_iff,decide_eq_false_iff_not,decide_eq_false_iff_not];omega
   simp only [e1,Bool.false_eq_true,if_false,if_neg c1]
   exact stop
theorem plNumber_ev (m:Nat) (ss:List St) (os ls:List Int) (hm:m≤6) (hL:ss.length≤40) (h:Perm ss.length ls) (v:Int) (h0:0≤v) (h1:v < (m:Int)+ss.length):Ev (fun k=>spec_plNumber.f k m ss os ls v) (rnum m ls v):=by
 unfold spec_plNumber.f
 have hb:=rnum_box (m:=m) h v h0 h1
 unfold rnum at hb ⊢
 by_cases c:v < (m:Int)
 ·simp only [if_pos c];exact Ev.now _
 ·simp only [if_neg c] at hb ⊢
  have hp:=plPlace_ev ls (v - m) (by rw [h.len];omega)
  simp only [w64 (show -9223372036854775808≤v - (m:Int) by omega) (by omega)]
  refine ev_bind hp ?_
  simp only [w64 (show -9223372036854775808≤(m:Int)+placeFrom ls (v - m) ls.length 0 by omega) (by omega)]
  exact Ev.now _
theorem plKeep_ev (m:Nat) (ss:List St) (os ls:List Int) (h2:m≤6) (h3:ss.length≤40) (h4:os.length≤6) (ho:InOrder m ss) (hos:∀ x∈os,0≤x∧x < (m:Int)+ss.length) (h:Perm ss.length ls):Ev (fun k=>spec_plKeep.f k m ss os ls) ((m:Int),rSteps m ss ls,os.map (rnum m ls)):=by
 unfold spec_plKeep.f rSteps
 have outs:∀ (d i:Nat) (st:List St),i+d=os.length→Ev (fun k=>spec_plKeep.l1 k ls os os.length i m ss os m st ((os.take i).map (rnum m ls))) ((m:Int),st,os.map (rnum m ls)):=by
  intro d
  induction d with
  | zero=>
   intro i st hd
   refine ev_shift ?_
   simp only [spec_plKeep.l1,if_neg (show ¬ (i:Int) < (os.length:Int) by omega)]
   rw [List.take_of_length_le (by omega)]
   exact Ev.now _
  | succ d ih=>
   intro i st hd
   have e:rd os (i:Int)=os[i]'(by omega):=by rw [rd_nat];simp [List.getD,show i < os.length by omega]
   have hx:=hos _ (List.getElem_mem (show i < os.length by omega))
   rw [← e] at hx
   refine ev_shift ?_
   simp only [spec_plKeep.l1,if_pos (show (i:Int) < (os.length:Int) by omega),if_pos (show (0:Int)≤(i:Int) by omega),if_pos (show ((os.take i).map (rnum m ls)).length < 17592186044416 by simp;omega),w64 (show -9223372036854775808≤(i:Int)+1 by omega) (by omega)]
   refine ev_bind (plNumber_ev m ss os ls h2 h3 h _ hx.1 hx.2) ?_
   have:=ih (i+1) st (by omega)
   rw [List.take_succ_eq_append_getElem (by omega),List.map_append,← e] at this
   exact this
 have loop:∀ (d j:Nat),j+d=ls.length→Ev (fun k=>spec_plKeep.l0 k ls ls ls.length j m ss os m ((ls.take j).map (rStep m ss ls))) ((m:Int),ls.map (rStep m ss ls),os.map (rnum m ls)):=by
  intro d
  induction d with
  | zero=>
   intro j hd
   refine ev_shift ?_
   simp only [spec_plKeep.l0,if_neg (show ¬ (j:Int) < (ls.length:Int) by omega)]
   rw [List.take_of_length_le (by omega)]
   exact outs os.length 0 _ (by omega)
  | succ d ih=>
   intro j hd
   have hjl:j < ls.length:=by omega
   have e:=rd_ne ls j hjl
   have hb:=h.box _ (List.getElem_mem hjl)
   rw [← e] at hb
   obtain ⟨i,hi⟩ : ∃ i:Nat,rd ls (j:Int)=i:=⟨(rd ls (j:Int)).toNat,by omega⟩
   have hik:i < ss.length:=by omega
   obtain ⟨k1,k2,k3⟩:=ho i hik
   have k1' : 0≤(rdS ss i).f0:=k1
   have k2' : (rdS ss i).f0≤(rdS ss i).f1:=k2
   have k3' : (rdS ss i).f1 < (m:Int)+i:=k3
   have er:rd_T73 ss (i:Int)=rdS ss i:=rfl
   have hll:=h.len
   refine ev_shift ?_
   simp only [spec_plKeep.l0,if_pos (show (j:Int) < (ls.length:Int) by omega),if_pos (show (0:Int)≤(j:Int) by omega),hi,if_pos (show (0:Int)≤(i:Int) by omega),if_pos (show (i:Int) < (ss.length:Int) by omega),w64 (show -9223372036854775808≤(j:Int)+1 by omega) (by omega),er]
   refine ev_bind (plNumber_ev m ss os ls h2 h3 h (rdS ss i).f0 k1' (by omega)) ?_
   refine ev_bind (plNumber_ev m ss os ls h2 h3 h (rdS ss i).f1 (by omega) (by omega)) ?_
   simp only [spec_plStep.f,least_mn,most_mx,Option.bind_some,if_pos (show ((ls.take j).map (rStep m ss ls)).length < 8796093022208 by rw [List.length_map,List.length_take];omega)]
   have:=ih (j+1) (by omega)
   rw [List.take_succ_eq_append_getElem (by omega),List.map_append,← e,hi] at this
   exact this
 exact loop ls.length 0 (by omega)
theorem spec_ev (n:Int) (ss:List St) (os:List Int) (ls:List Int) (hl:ls.length≤2000000):Ev (fun k=>spec_ReorderSteps.f k n ss os ls) (answer n ss os ls):=by
 unfold spec_ReorderSteps.f answer
 refine ev_bind (plGood_ev n ss os) ?_
 by_cases c:planOk n ss os=true
 ·obtain ⟨m,rfl,h1,h2,h3,h4,ho,hos,_⟩:=planOk_of c
  have hm:∀ x∈os,0≤x∧x < (m:Int)+ss.length:=fun x hx=>by
   obtain ⟨j,hj,rfl⟩:=List.getElem_of_mem hx
   have:=hos j hj
   rw [rd_ne os j hj] at this
   omega
  simp only [c,if_true,Int.toNat_natCast]
  by_cases g:good m ss ls
  ·obtain ⟨g1,g2⟩:=(good_iff m ss ls).1 g
   have:=plOrder_ev m ss os ls h2 h3 ho g1 ls.length 0 (by omega)
   rw [g2] at this
   unfold spec_plOrder.f
   simp only [if_pos (show (ls.length:Int)=(ss.length:Int) by omega),ansGood_pos g]
   refine ev_bind this ?_
   simp only [if_true]
   exact ev_bind (plKeep_ev m ss os ls h2 h3 h4 ho hm g.1) (Ev.now _)
  ·simp only [ansGood_neg g]
   unfold spec_plOrder.f
   by_cases e:(ls.length:Int)=(ss.length:Int)
   ·have:=plOrder_ev m ss os ls h2 h3 ho (by omega) ls.length 0 (by omega)
    have hf:ordFrom m ss ls ls.length 0=false:=by
     cases hc:ordFrom m ss ls ls.length 0 with
     | false=>rfl
     | true=>exact absurd ((good_iff m ss ls).2 ⟨by omega,hc⟩) g
    rw [hf] at this
    simp only [if_pos e]
    refine ev_bind this ?_
    simp only [Bool.false_eq_true,if_false]
    exact Ev.now _
   ·simp only [if_neg e,Option.bind_some,Bool.false_eq_true,if_false]
    exact Ev.now _
 ·simp only [if_neg c]
  exact Ev.now _
theorem equal_ev (a b:List Int) (ha:a.length≤2000000):Ev (fun k=>slices_Equal_int_int.f k a b) (decide (a=b)):=by
 unfold slices_Equal_int_int.f
 by_cases hl:a.length=b.length
 ·simp only [if_pos (show (a.length:Int)=(b.length:Int) by omega)]
  have loop:∀ (d i:Nat),i+d=a.length→a.take i=b.take i→Ev (fun k=>slices_Equal_int_int.l0 k a b a.length i) (decide (a=b)):=by
   intro d
   induction d with
   | zero=>
    intro i hi ht
    refine ev_shift ?_
    simp only [slices_Equal_int_int.l0,if_neg (show ¬ (i:Int) < (a.length:Int) by omega)]
    rw [List.take_of_length_le (by omega),List.take_of_length_le (by omega)] at ht
    rw [decide_eq_true ht]
    exact Ev.now _
   | succ d ih=>
    intro i hi ht
    have ea:=rd_ne a i (by omega)
    have eb:=rd_ne b i (by omega)
    refine ev_shift ?_
    simp only [slices_Equal_int_int.l0,if_pos (show (i:Int) < (a.length:Int) by omega),if_pos (show (0:Int)≤(i:Int) by omega),if_pos (show (i:Int) < (b.length:Int) by omega),w64 (show -9223372036854775808≤(i:Int)+1 by omega) (by omega)]
    by_cases c:rd a (i:Int)=rd b (i:Int)
    ·simp only [if_pos c]
     refine ih (i+1) (by omega) ?_
     rw [List.take_succ_eq_append_getElem (by omega),List.take_succ_eq_append_getElem (by omega),ht,← ea,← eb,c]
    ·simp only [if_neg c]
     rw [decide_eq_false (fun e=>c (by rw [e]))]
     exact Ev.now _
  exact loop a.length 0 (by omega) (by simp)
 ·simp only [if_neg (show ¬ (a.length:Int)=(b.length:Int) by omega)]
  rw [decide_eq_false (fun e=>hl (by rw [e]))]
  exact Ev.now _
theorem isOrder_ev (ls:List Int) (hl:ls.length≤2000000) (L:Nat) (hL:L≤40):Ev (fun k=>impl_isOrder.f k ls L) (decide (impl_isOrder.sorted ls=firstN L)):=by
 unfold impl_isOrder.f
 simp only [if_pos (show ls.length≤1000000000 by omega)]
 refine ev_bind (firsts_ev L (by omega)) ?_
 refine equal_ev _ _ ?_
 unfold impl_isOrder.sorted
 rw [List.length_mergeSort]
 exact hl
def plc (m L:Nat) (ls:List Int) (t:Nat):List Int:=(List.range (m+L)).map fun v:Nat=>if (v:Int) < m then (v:Int) else if (v:Int) - m∈ls.take t then (m:Int)+placeFrom ls ((v:Int) - m) ls.length 0 else 0
theorem plc_len (m L:Nat) (ls:List Int) (t:Nat):(plc m L ls t).length=m+L:=by unfold plc;simp
theorem plc_start (m L:Nat) (ls:List Int):firstN m++List.replicate L 0=plc m L ls 0:=by
 apply List.ext_getElem?
 intro i
 by_cases hi:i < m+L
 ·unfold plc
  rw [List.getElem?_map,List.getElem?_range hi]
  simp only [Option.map_some,List.take_zero,List.not_mem_nil,if_false]
  by_cases c:i < m
  ·rw [List.getElem?_append_left (by rw [firstN_length];exact c),if_pos (by omega)]
   unfold firstN
   simp [c]
  ·rw [List.getElem?_append_right (by rw [firstN_length];omega),firstN_length,if_neg (by omega),List.getElem?_replicate,if_pos (by omega)]
 ·rw [List.getElem?_eq_none (by rw [List.length_append,firstN_length,List.length_replicate];omega),List.getElem?_eq_none (by rw [plc_len];omega)]
theorem plc_step (m L:Nat) (ls:List Int) (h:Perm L ls) (t:Nat) (ht:t < ls.length):(plc m L ls t).set ((m:Int)+rd ls (t:Int)).toNat ((m:Int)+t)=plc m L ls (t+1):=by
 have hb:=h.box _ (List.getElem_mem ht)
 rw [← rd_ne ls t ht] at hb
 obtain ⟨i,hi⟩ : ∃ i:Nat,rd ls (t:Int)=i:=⟨(rd ls (t:Int)).toNat,by omega⟩
 have et:ls.take (t+1)=ls.take t++[(i:Int)]:=by rw [List.take_succ_eq_append_getElem ht,← rd_ne ls t ht,hi]
 have hp:=place_get ls h.one t ht
 rw [hi] at hp hb ⊢
 rw [show ((m:Int)+i).toNat=m+i by omega]
 apply List.ext_getElem?
 intro v
 by_cases hv:v < m+L
 ·rw [List.getElem?_set,plc_len]
  unfold plc
  rw [List.getElem?_map,List.getElem?_map,List.getElem?_range hv]
  simp only [Option.map_some]
  by_cases c:m+i=v
  ·subst c
   rw [if_pos rfl,if_pos (by omega),if_neg (by omega),show ((m+i:Nat):Int) - m=i by omega,et,if_pos (by simp),hp]
  ·rw [if_neg c,et]
   by_cases c2:(v:Int) < m
   ·rw [if_pos c2,if_pos c2]
   ·rw [if_neg c2,if_neg c2]
    have:((v:Int) - m∈ls.take t++[(i:Int)])↔(v:Int) - m∈ls.take t:=by
     rw [List.mem_append]
     refine ⟨fun h=>h.elim id (fun h=>?_),.inl⟩
     simp at h
     omega
    by_cases c3:(v:Int) - m∈ls.take t
    ·rw [if_pos c3,if_pos (this.2 c3)]
    ·rw [if_neg c3,if_neg (fun h=>c3 (this.1 h))]
 ·rw [List.getElem?_eq_none (by rw [List.length_set,plc_len];omega),List.getElem?_eq_none (by rw [plc_len];omega)]
theorem plc_rd (m L:Nat) (ls:List Int) (h:Perm L ls) (v:Int) (h0:0≤v) (h1:v < (m:Int)+L):rd (plc m L ls ls.length) v=rnum m ls v:=by
 obtain ⟨n,rfl⟩:=Int.eq_ofNat_of_zero_le h0
 rw [rd_ne _ n (by rw [plc_len];omega)]
 unfold plc rnum
 simp only [List.getElem_map,List.getElem_range,List.take_length]
 by_cases c:(n:Int) < m
 ·rw [if_pos c,if_pos c]
 ·rw [if_neg c,if_neg c]
  obtain ⟨k,hk,e⟩:=perm_all h (n - m) (by omega)
  have:(n:Int) - m∈ls:=by
   rw [show (n:Int) - m=((n - m:Nat):Int) by omega,← e,rd_ne ls k hk]
   exact List.getElem_mem hk
  rw [if_pos this]
theorem impl_ev (n:Int) (ss:List St) (os:List Int) (ls:List Int) (hl:ls.length≤2000000):Ev (fun k=>impl_ReorderSteps.f k n ss os ls) (answer n ss os ls):=by
 unfold impl_ReorderSteps.f answer
 refine ev_bind (isPlan_ev n ss os) ?_
 have fin:Ev (fun k=>impl_ReorderSteps.j0 k ls true n ss os) ((0,[],[],false):Int × List St × List Int × Bool):=by
  refine ev_shift ?_
  simp only [impl_ReorderSteps.j0,if_true]
  exact Ev.now _
 by_cases c:planOk n ss os=true
 ·obtain ⟨m,rfl,h1,h2,h3,h4,ho,hos,hex⟩:=planOk_of c
  have hm:∀ x∈os,0≤x∧x < (m:Int)+ss.length:=fun x hx=>by
   obtain ⟨j,hj,rfl⟩:=List.getElem_of_mem hx
   have:=hos j hj
   rw [rd_ne os j hj] at this
   omega
  simp only [c,if_true,Int.toNat_natCast]
  refine ev_bind (isOrder_ev ls hl ss.length h3) ?_
  by_cases e:impl_isOrder.sorted ls=firstN ss.length
  ·have hp:=sorted_perm e
   have hll:=hp.len
   rw [decide_eq_true e]
   simp only [Bool.not_true]
   have fin3:told3 m (rSteps m ss ls) (os.map (rnum m ls))=ansGood m ss os ls:=by
    unfold told3
    have hoo:∀ x∈os.map (rnum m ls),0≤x∧x < (m:Int)+(rSteps m ss ls).length:=fun x hx=>by
     obtain ⟨v,hv,rfl⟩:=List.mem_map.1 hx
     rw [rSteps_len,hll]
     exact rnum_box hp v (hm v hv).1 (hm v hv).2
    by_cases g:good m ss ls
    ·rw [ansGood_pos g,if_pos (planOk_mk h1 h2 (by rw [rSteps_len];omega) (by rw [List.length_map];exact h4) ((order_iff ho hp).2 g.2) hoo (fun r hr=>hex r (order_sub m ss ls ho hp g.2 r hr)))]
    ·rw [ansGood_neg g,if_neg]
     intro hc
     obtain ⟨m',em,_,_,_,_,ho',_⟩:=planOk_of hc
     have:m' = m:=by omega
     subst this
     exact g ⟨hp,(order_iff ho hp).1 ho'⟩
   have second:∀ (d j:Nat),j+d=ls.length→Ev (fun k=>impl_ReorderSteps.l1 k (plc m ss.length ls ls.length) ls ls.length j m ss os m ((ls.take j).map (rStep m ss ls)) (os.map (rnum m ls))) (told3 m (rSteps m ss ls) (os.map (rnum m ls))):=by
    intro d
    induction d with
    | zero=>
     intro j hd
     refine ev_shift ?_
     simp only [impl_ReorderSteps.l1,if_neg (show ¬ (j:Int) < (ls.length:Int) by omega)]
     rw [List.take_of_length_le (by omega)]
     exact ev_bind (told3_ev m _ _) (Ev.now _)
    | succ d ih=>
     intro j hd
     have hjl:j < ls.length:=by omega
     have er:=rd_ne ls j hjl
     have hb:=hp.box _ (List.getElem_mem hjl)
     rw [← er] at hb
     obtain ⟨i,hi⟩ : ∃ i:Nat,rd ls (j:Int)=i:=⟨(rd ls (j:Int)).toNat,by omega⟩
     have hik:i < ss.length:=by omega
     obtain ⟨k1,k2,k3⟩:=ho i hik
     have k1' : 0≤(rdS ss i).f0:=k1
     have k2' : (rdS ss i).f0≤(rdS ss i).f1:=k2
     have k3' : (rdS ss i).f1 < (m:Int)+i:=k3
     have es:rd_T73 ss (i:Int)=rdS ss i:=rfl
     have p0:=plc_rd m ss.length ls hp (rdS ss i).f0 k1' (by omega)
     have p1:=plc_rd m ss.length ls hp (rdS ss i).f1 (by omega) (by omega)
     refine ev_shift ?_
     simp only [impl_ReorderSteps.l1,if_pos (show (j:Int) < (ls.length:Int) by omega),if_pos (show (0:Int)≤(j:Int) by omega),hi,if_pos (show (0:Int)≤(i:Int) by omega),if_pos (show (i:Int) < (ss.length:Int) by omega),es,if_pos k1',if_pos (show 0≤(rdS ss i).f1 by omega),plc_len,if_pos (show (rdS ss i).f0 < ((m+ss.length:Nat):Int) by omega),if_pos (show (rdS ss i).f1 < ((m+ss.length:Nat):Int) by omega),p0,p1,impl_step.f,Option.bind_some,if_pos (show ((ls.take j).map (rStep m ss ls)).length < 8796093022208 by rw [List.length_map,List.length_take];omega),w64 (show -9223372036854775808≤(j:Int)+1 by omega) (by omega)]
     have:=ih (j+1) (by omega)
     rw [List.take_succ_eq_append_getElem (by omega),List.map_append,← er,hi] at this
     exact this
   have hren:Ev (fun k=>impl_renamed.f k os (plc m ss.length ls ls.length)) (os.map (rnum m ls)):=by
    have:=renamed_ev os (plc m ss.length ls ls.length) (by omega) (fun x hx=>by rw [plc_len];have:=hm x hx;omega)
    rw [List.map_congr_left (fun x hx=>plc_rd m ss.length ls hp x (hm x hx).1 (hm x hx).2)] at this
    exact this
   have first:∀ (d t:Nat),t+d=ls.length→Ev (fun k=>impl_ReorderSteps.l0 k ls (plc m ss.length ls t) ls ls.length t m ss os) (told3 m (rSteps m ss ls) (os.map (rnum m ls))):=by
    intro d
    induction d with
    | zero=>
     intro t hd
     obtain rfl:t=ls.length:=by omega
     refine ev_shift ?_
     simp only [impl_ReorderSteps.l0,if_neg (show ¬ (ls.length:Int) < (ls.length:Int) by omega)]
     refine ev_bind hren ?_
     exact second ls.length 0 (by omega)
    | succ d ih=>
     intro t hd
     have htl:t < ls.length:=by omega
     have hb:=hp.box _ (List.getElem_mem htl)
     rw [← rd_ne ls t htl] at hb
     have wv:wrap64 ((m:Int)+rd ls (t:Int))=(m:Int)+rd ls (t:Int):=w64 (by omega) (by omega)
     have wt:wrap64 ((m:Int)+(t:Int))=(m:Int)+t:=w64 (by omega) (by omega)
     have hst:=plc_step m ss.length ls hp t htl
     refine ev_shift ?_
     simp only [impl_ReorderSteps.l0,if_pos (show (t:Int) < (ls.length:Int) by omega),if_pos (show (0:Int)≤(t:Int) by omega),wv,wt,plc_len,if_pos (show 0≤(m:Int)+rd ls (t:Int) by omega),if_pos (show (m:Int)+rd ls (t:Int) < ((m+ss.length:Nat):Int) by omega),hst,w64 (show -9223372036854775808≤(t:Int)+1 by omega) (by omega)]
     exact ih (t+1) (by omega)
   rw [← fin3]
   refine ev_shift ?_
   simp only [impl_ReorderSteps.j0,Bool.false_eq_true,if_false]
   refine ev_bind (firsts_ev m (by omega)) ?_
   simp only [if_pos (show (0:Int)≤(ss.length:Int) by omega),Int.toNat_natCast,firstN_length,if_pos (show m+ss.length < 17592186044416 by omega)]
   rw [plc_start m ss.length ls]
   exact first ls.length 0 (by omega)
  ·rw [decide_eq_false e]
   simp only [Bool.not_false]
   rw [ansGood_neg (fun g:good m ss ls=>e (perm_sorted g.1))]
   exact fin
 ·simp only [if_neg c]
  exact fin
theorem answer_len (n:Int) (ss:List St) (os ls:List Int):(answer n ss os ls).2.1.length≤1000∧(answer n ss os ls).2.2.1.length≤1000:=by
 unfold answer
 by_cases c:planOk n ss os=true
 ·rw [if_pos c]
  obtain ⟨m,rfl,h1,h2,h3,h4,_⟩:=planOk_of c
  by_cases g:good (m:Int).toNat ss ls
  ·rw [ansGood_pos g]
   have:=g.1.len
   exact ⟨show (rSteps _ _ _).length≤1000 by rw [rSteps_len];omega,show (os.map _).length≤1000 by rw [List.length_map];omega⟩
  ·rw [ansGood_neg g]
   exact ⟨Nat.zero_le _,Nat.zero_le _⟩
 ·rw [if_neg c]
  exact ⟨Nat.zero_le _,Nat.zero_le _⟩
theorem FnExactReorderSteps:laws_FnExactReorderSteps.Pure:=by
 intro n l1 l2 l3 _ _ m1 _ m2 _ m3
 by_cases h3:(l3.length:Int) > 1048576
 ·refine ⟨0,?_⟩
  unfold laws_FnExactReorderSteps.f
  rw [if_pos h3]
 have s1:=sz_gen n l1 l2 1048576 (by omega) (by omega) m1 m2
 by_cases hl:l1.length+l2.length≤1048576
 ·rw [if_pos (by omega)] at s1
  refine Ev.rounds (r:=true) ?_
  have hp:=toPlan_ev n l1 l2 (by omega) (by omega)
  have hq:=toIntS_ev l3 (by omega)
  have hcl:(l1.map cv).length≤1048576:=by rw [List.length_map];omega
  have hpe:=eqPlan_same n (l1.map cv) l2 hcl (by omega)
  have hqe:=eqIntS_same l3 (by omega)
  have hs:=spec_ev n (l1.map cv) l2 l3 (by omega)
  have hi:=impl_ev n (l1.map cv) l2 l3 (by omega)
  have hal:=answer_len n (l1.map cv) l2 l3
  have hmp:=markPlan_ev n (l1.map cv) l2 (by omega) (by omega)
  have hmq:=markIntS_ev l3 (1+2*((l1.map cv).length:Int)+(l2.length:Int)) (by omega) (by omega)
  generalize answer n (l1.map cv) l2 l3=a at hs hi hal
  obtain ⟨an,ast,ao,ab⟩:=a
  simp only at hal
  have he:=eqPlan_same an ast ao (by omega) (by omega)
  have hm:=markPlan_ev an ast ao (by omega) (by omega)
  have hh:=heldPlan_ev an ast.length ao.length (by omega) (by omega)
  have e:∀ b:Bool,(b != b)=false:=fun b=>by cases b <;> rfl
  unfold laws_FnExactReorderSteps.f
  simp only [if_neg h3,s1,Option.bind_some,if_neg (show ¬ (1048576 - (l1.length:Int) - (l2.length:Int)) < 0 by omega)]
  refine ev_bind hp ?_
  refine ev_bind hq ?_
  refine ev_bind hs ?_
  refine ev_bind hp ?_
  refine ev_bind hq ?_
  refine ev_bind hi ?_
  refine ev_bind he ?_
  simp only [if_true,e,Bool.false_eq_true,if_false]
  refine ev_bind hp ?_
  refine ev_bind hpe ?_
  simp only [if_true]
  refine ev_bind hq ?_
  refine ev_bind hqe ?_
  simp only [if_true]
  refine ev_bind hmp ?_
  refine ev_bind hmq ?_
  simp only [if_neg (show ¬ 1+2*((l1.map cv).length:Int)+(l2.length:Int)+(l3.length:Int) < 0 by omega)]
  refine ev_bind he ?_
  simp only [if_true]
  refine ev_bind hm ?_
  refine ev_bind hh ?_
  simp only [if_neg (show ¬ 1+2*(ast.length:Int)+(ao.length:Int) < 0 by omega),if_true]
  refine ev_bind hp ?_
  refine ev_bind hq ?_
  refine ev_bind hi ?_
  refine ev_bind he ?_
  simp only [if_true,e,Bool.false_eq_true,if_false]
  refine ev_bind hh ?_
  simp only [if_neg (show ¬ 1+2*(ast.length:Int)+(ao.length:Int) < 0 by omega),if_true]
  exact Ev.now _
 ·rw [if_neg (by omega)] at s1
  refine ⟨0,?_⟩
  unfold laws_FnExactReorderSteps.f
  simp only [if_neg h3,s1,Option.bind_some]
  exact if_pos (by decide)
end Go.Proofs.Ytdcdaoancmpbeaa.Pure
--sq
