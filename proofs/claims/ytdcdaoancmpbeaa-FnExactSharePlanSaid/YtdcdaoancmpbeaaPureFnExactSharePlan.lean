import Derived.Test.YtdcdaoancmpbeaaMFnExactSharePlanx17
namespace Go.Proofs.Ytdcdaoancmpbeaa.Pure
open Go.RowKit Go.Proofs.Ytdcdaoancmpbeaa.MFnExactSharePlan Go.Proofs.YtdcdaoancmpbeaaW.PrintWords Go.Proofs.YtdcdaoancmpbeaaW.PrintLast Go.Proofs.YtdcdaoancmpbeaaW.PrintMore
set_option linter.unusedVariables false
set_option linter.unusedSimpArgs false
open Go.Proofs.YtdcdaoancmpbeaaH
open Go.Proofs.YtdcdaoancmpbeaaH
theorem w64 {x:Int} (h1 : -9223372036854775808≤x) (h2:x≤9223372036854775807):wrap64 x=x:=by unfold wrap64;omega
theorem rd_nat (xs:List Int) (j:Nat):rd xs (j:Int)=xs.getD j 0:=by unfold rd;rw [Int.toNat_natCast]
theorem ev_shift {α:Type} {g:Nat→Option α} {r:α} (h:Ev (fun k=>g (k+1)) r):Ev g r:=by
 obtain ⟨K,hK⟩:=h
 refine ⟨K+1,fun k hk=>?_⟩
 obtain ⟨m,rfl⟩ : ∃ m,k=m+1:=⟨k - 1,by omega⟩
 exact hK m (by omega)
theorem ev_bind {α β:Type} {g:Nat→Option α} {F:Nat→α→Option β} {a:α} {r:β} (h:Ev g a) (k:Ev (fun n=>F n a) r):Ev (fun n=>(g n).bind (fun x=>F n x)) r:=Ev.bind h k
theorem eqIntS_same (xs:List Int) (hb:xs.length≤4611686018427387904):Ev (fun k=>laws_eqIntS.f k xs xs) true:=by
 have loop:∀ (d k:Nat) (i:Int),0≤i→i≤xs.length→(xs.length:Int) - i=d→d < k→laws_eqIntS.l0 k xs xs i=some true:=by
  intro d
  induction d with
  | zero=>
   intro k i h0 h1 hd hk
   obtain ⟨k,rfl⟩ : ∃ m,k=m+1:=⟨k - 1,by omega⟩
   rw [laws_eqIntS.l0,if_neg (by omega)]
  | succ d ih=>
   intro k i h0 h1 hd hk
   obtain ⟨k,rfl⟩ : ∃ m,k=m+1:=⟨k - 1,by omega⟩
   rw [laws_eqIntS.l0,if_pos (by omega),if_pos h0,if_pos (by omega),if_pos rfl,w64 (by omega) (by omega)]
   exact ih k (i+1) (by omega) (by omega) (by omega) (by omega)
 refine ⟨xs.length+1,fun k hk=>?_⟩
 show laws_eqIntS.f k xs xs=some true
 unfold laws_eqIntS.f
 rw [if_pos rfl]
 exact loop xs.length k 0 (by omega) (by omega) (by omega) (by omega)
theorem toIntS_step (xs:List Int) (i:Nat) (h:i < xs.length):(xs.take i++List.replicate (xs.length - i) 0).set i (xs.getD i 0)=xs.take (i+1)++List.replicate (xs.length - (i+1)) 0:=by
 have hl:(xs.take i).length=i:=by simp;omega
 rw [List.set_append_right _ _ (by omega),hl,Nat.sub_self]
 obtain ⟨m,hm⟩ : ∃ m,xs.length - i=m+1:=⟨xs.length - i - 1,by omega⟩
 have hm2:xs.length - (i+1)=m:=by omega
 have e:xs.getD i 0=xs[i]:=by simp [List.getD,h]
 rw [hm,hm2,List.replicate_succ,List.set_cons_zero,e,List.take_succ_eq_append_getElem h,List.append_assoc]
 rfl
theorem toIntS_ev (xs:List Int) (hb:xs.length≤35184372088832):Ev (fun k=>laws_toIntS.f k xs) xs:=by
 have loop:∀ (d k i:Nat),i≤xs.length→xs.length - i=d→d < k→laws_toIntS.l0 k xs (xs.take i++List.replicate (xs.length - i) 0) i=some xs:=by
  intro d
  induction d with
  | zero=>
   intro k i h1 hd hk
   obtain ⟨k,rfl⟩ : ∃ m,k=m+1:=⟨k - 1,by omega⟩
   obtain rfl:i=xs.length:=by omega
   rw [laws_toIntS.l0,if_neg (by omega)]
   simp
  | succ d ih=>
   intro k i h1 hd hk
   obtain ⟨k,rfl⟩ : ∃ m,k=m+1:=⟨k - 1,by omega⟩
   have hl:(xs.take i++List.replicate (xs.length - i) 0).length=xs.length:=by simp;omega
   rw [laws_toIntS.l0,if_pos (by omega),if_pos (by omega),hl,if_pos (by omega),Int.toNat_natCast,rd_nat,toIntS_step xs i (by omega),w64 (by omega) (by omega)]
   exact ih k (i+1) (by omega) (by omega) (by omega)
 refine ⟨xs.length+1,fun k hk=>?_⟩
 have h:=loop xs.length k 0 (by omega) (by omega) (by omega)
 show laws_toIntS.f k xs=some xs
 unfold laws_toIntS.f
 rw [if_pos (by omega),Int.toNat_natCast,if_pos hb]
 simpa using h
theorem l1In_eq (a b c:Int):spec_l1In.f a b c=some (decide (b≤a) && decide (a≤c)):=by
 unfold spec_l1In.f
 by_cases h:a ≥ b
 ·rw [if_pos h];simp [show b≤a from h]
 ·rw [if_neg h];simp [show ¬ b≤a from h]
def allFrom (xs:List Int) (a b:Int):Nat→Int→Bool
 | 0,_=>true
 | d+1,i=>if a≤rd xs i∧rd xs i≤b then allFrom xs a b d (i+1) else false
theorem l1All_ev (xs:List Int) (a b:Int) (hl:xs.length≤100000000):Ev (fun f=>spec_l1All.f f xs a b) (allFrom xs a b xs.length 0):=by
 have loop:∀ (d:Nat) (i:Int),0≤i→i+d=xs.length→Ev (fun f=>spec_l1All.l0 f a b xs xs.length i) (allFrom xs a b d i):=by
  intro d
  induction d with
  | zero=>
   intro i h0 hd
   refine ev_shift ?_
   simp only [spec_l1All.l0,if_neg (show ¬ i < (xs.length:Int) by omega),allFrom]
   exact Ev.now _
  | succ d ih=>
   intro i h0 hd
   have hn:=ih (i+1) (by omega) (by omega)
   refine ev_shift ?_
   simp only [spec_l1All.l0,if_pos (show i < (xs.length:Int) by omega),if_pos h0,w64 (show -9223372036854775808≤i+1 by omega) (by omega),l1In_eq,Option.bind_some]
   unfold allFrom
   by_cases c:a≤rd xs i∧rd xs i≤b
   ·rw [if_pos c];simp only [decide_eq_true c.1,decide_eq_true c.2,Bool.and_self,if_true];exact hn
   ·rw [if_neg c]
    have e:(decide (a≤rd xs i) && decide (rd xs i≤b))=false:=by rw [Bool.and_eq_false_iff,decide_eq_false_iff_not,decide_eq_false_iff_not];omega
    simp only [e,Bool.false_eq_true,if_false];exact Ev.now _
 exact loop xs.length 0 (by omega) (by omega)
def cv (s:S93):S73:=⟨s.f0,s.f1⟩
theorem take_set {α:Type} (ys:List α) (z:α) (i:Nat) (h:i < ys.length):(ys.take i++List.replicate (ys.length - i) z).set i (ys.getD i z)=ys.take (i+1)++List.replicate (ys.length - (i+1)) z:=by
 have hl:(ys.take i).length=i:=by simp;omega
 rw [List.set_append_right _ _ (by omega),hl,Nat.sub_self]
 obtain ⟨m,hm⟩ : ∃ m,ys.length - i=m+1:=⟨ys.length - i - 1,by omega⟩
 have hm2:ys.length - (i+1)=m:=by omega
 have e:ys.getD i z=ys[i]:=by simp [List.getD,h]
 rw [hm,hm2,List.replicate_succ,List.set_cons_zero,e,List.take_succ_eq_append_getElem h,List.append_assoc]
 rfl
theorem rd_cv (xs:List (S93)) (i:Nat):(⟨(rd_T93 xs (i:Int)).f0,(rd_T93 xs (i:Int)).f1⟩ : S73)=(xs.map cv).getD i z73:=by
 unfold rd_T93
 rw [Int.toNat_natCast]
 simp only [List.getD_eq_getElem?_getD,List.getElem?_map]
 cases xs[i]? <;> rfl
theorem toStepS_ev (xs:List (S93)) (hb:xs.length≤1048576):Ev (fun k=>laws_toStepS.f k xs) (xs.map cv):=by
 obtain ⟨ys,hy⟩ : ∃ ys,ys=xs.map cv:=⟨_,rfl⟩
 have hyl:ys.length=xs.length:=by rw [hy,List.length_map]
 have loop:∀ (d i:Nat),i+d=xs.length→Ev (fun k=>laws_toStepS.l0 k xs (ys.take i++List.replicate (ys.length - i) z73) i) ys:=by
  intro d
  induction d with
  | zero=>
   intro i hd
   refine ev_shift ?_
   simp only [laws_toStepS.l0,if_neg (show ¬ (i:Int) < (xs.length:Int) by omega)]
   have e:ys.take i++List.replicate (ys.length - i) z73=ys:=by
    rw [List.take_of_length_le (by omega),Nat.sub_eq_zero_of_le (by omega)];simp
   rw [e]
   exact Ev.now _
  | succ d ih=>
   intro i hd
   have hl:(ys.take i++List.replicate (ys.length - i) z73).length=ys.length:=by simp;omega
   refine ev_shift ?_
   simp only [laws_toStepS.l0,laws_toStep.f,Option.bind_some,hl,if_pos (show (i:Int) < (xs.length:Int) by omega),if_pos (show (i:Int) < (ys.length:Int) by omega),if_pos (show (0:Int)≤(i:Int) by omega),Int.toNat_natCast,rd_cv,← hy,w64 (show -9223372036854775808≤(i:Int)+1 by omega) (by omega)]
   rw [take_set ys _ i (by omega)]
   exact ih (i+1) (by omega)
 have h:=loop xs.length 0 (by omega)
 unfold laws_toStepS.f
 simp only [if_pos (show (0:Int)≤(xs.length:Int) by omega),Int.toNat_natCast,if_pos (show xs.length≤17592186044416 by omega)]
 rw [← hy]
 simpa [hyl] using h
theorem toPlan_ev (n:Int) (l1:List (S93)) (l2:List Int) (h1:l1.length≤1048576) (h2:l2.length≤1048576):Ev (fun k=>laws_toPlan.f k n l1 l2) (n,l1.map cv,l2):=by
 unfold laws_toPlan.f
 exact ev_bind (toStepS_ev l1 h1) (ev_bind (toIntS_ev l2 (by omega)) (Ev.now _))
theorem eqStepS_same (xs:List (S73)) (hb:xs.length≤1048576):Ev (fun k=>laws_eqStepS.f k xs xs) true:=by
 have loop:∀ (d i:Nat),i+d=xs.length→Ev (fun k=>laws_eqStepS.l0 k xs xs i) true:=by
  intro d
  induction d with
  | zero=>
   intro i hd
   refine ev_shift ?_
   simp only [laws_eqStepS.l0,if_neg (show ¬ (i:Int) < (xs.length:Int) by omega)]
   exact Ev.now _
  | succ d ih=>
   intro i hd
   refine ev_shift ?_
   simp only [laws_eqStepS.l0,laws_eqStep.f,Option.bind_some,if_true,if_pos (show (i:Int) < (xs.length:Int) by omega),if_pos (show (0:Int)≤(i:Int) by omega),w64 (show -9223372036854775808≤(i:Int)+1 by omega) (by omega)]
   exact ih (i+1) (by omega)
 unfold laws_eqStepS.f
 simp only [if_true]
 exact loop xs.length 0 (by omega)
theorem sz_ok (n:Int) (l1:List (S93)) (l2:List Int) (h:l1.length+l2.length≤1048576):laws_szPlan.f n l1 l2 1048576=some (1048576 - (l1.length:Int) - (l2.length:Int)):=by
 unfold laws_szPlan.f laws_szStepS.f laws_szIntS.f
 rw [w64 (show -9223372036854775808≤(1048576:Int) - (l1.length:Int) by omega) (by omega),if_neg (by omega),Option.bind_some,if_neg (by omega),w64 (by omega) (by omega),if_neg (by omega),Option.bind_some,if_neg (by omega)]
theorem sz_big (n:Int) (l1:List (S93)) (l2:List Int) (m1:l1.length≤maxLen) (m2:l2.length≤maxLen) (h : ¬ l1.length+l2.length≤1048576):laws_szPlan.f n l1 l2 1048576=some (-1):=by
 unfold maxLen at m1 m2
 unfold laws_szPlan.f laws_szStepS.f laws_szIntS.f
 rw [w64 (show -9223372036854775808≤(1048576:Int) - (l1.length:Int) by omega) (by omega)]
 by_cases c:(1048576:Int) - (l1.length:Int) < 0
 ·rw [if_pos c,Option.bind_some,if_pos (by omega)]
 ·rw [if_neg c,Option.bind_some,if_neg c,w64 (by omega) (by omega),if_pos (by omega),Option.bind_some,if_pos (by omega)]
theorem eqPlan_same (n:Int) (ss:List (S73)) (os:List Int) (h1:ss.length≤1048576) (h2:os.length≤1048576):Ev (fun k=>laws_eqPlan.f k n ss os n ss os) true:=by
 unfold laws_eqPlan.f
 simp only [if_true]
 refine ev_bind (eqStepS_same ss (by omega)) ?_
 simp only [if_true]
 refine ev_bind (eqIntS_same os (by omega)) ?_
 simp only [if_true]
 exact Ev.now _
def InOrder (n:Nat) (ss:List (S73)):Prop:=∀ i:Nat,i < ss.length→0≤(rd_T73 ss i).f0∧(rd_T73 ss i).f0≤(rd_T73 ss i).f1∧(rd_T73 ss i).f1 < n+i
def cap2 (x:Int):Int:=if x < 1000001 then x else 1000001
def sumFrom (a b:List Int):Nat→Int→List Int
 | 0,_=>[]
 | d+1,k=>cap2 (wrap64 (rd a k+rd b k)) :: sumFrom a b d (k+1)
theorem sumFrom_length (a b:List Int):∀ d k,(sumFrom a b d k).length=d
 | 0,_=>rfl
 | d+1,k=>by rw [sumFrom,List.length_cons,sumFrom_length a b d (k+1)]
def addRow (a b:List Int):List Int:=sumFrom a b a.length 0
def row0 (n i:Nat):List Int:=(List.replicate n 0).set i 1
def base0 (n m:Nat):List (List Int):=(List.range m).map (row0 n)
theorem base0_succ (n m:Nat):base0 n (m+1)=base0 n m++[row0 n m]:=by unfold base0;rw [List.range_succ,List.map_append];rfl
theorem base0_length (n m:Nat):(base0 n m).length=m:=by unfold base0;simp
def grow (ss:List (S73)):Nat→Int→List (List Int)→List (List Int)
 | 0,_,rows=>rows
 | d+1,i,rows=>grow ss d (i+1) (rows++[addRow (rd_L3 rows (rd_T73 ss i).f0) (rd_L3 rows (rd_T73 ss i).f1)])
def exps (n:Nat) (ss:List (S73)):List (List Int):=grow ss ss.length 0 (base0 n n)
def RowOk (n:Nat) (r:List Int):Prop:=r.length=n∧∀ e∈r,0≤e∧e≤1000001
def RowsOk (n m:Nat) (rows:List (List Int)):Prop:=rows.length=m∧∀ r∈rows,RowOk n r
theorem rd_mem (rows:List (List Int)) (a:Int) (h0:0≤a) (h1:a < rows.length):rd_L3 rows a∈rows:=by
 unfold rd_L3
 have h:a.toNat < rows.length:=by omega
 rw [show rows.getD a.toNat []=rows[a.toNat] by simp [List.getD,h]]
 exact List.getElem_mem h
theorem rd_in (r:List Int) (n:Nat) (hr:RowOk n r) (i:Int):0≤rd r i∧rd r i≤1000001:=by
 unfold rd
 rw [List.getD_eq_getElem?_getD]
 cases h:r[i.toNat]? with
 | none=>simp
 | some e=>exact hr.2 e (List.mem_of_getElem? h)
theorem sumFrom_ok (n:Nat) (a b:List Int) (ha:RowOk n a) (hb:RowOk n b):∀ d k,∀ e∈sumFrom a b d k,0≤e∧e≤1000001
 | 0,_,e,h=>by cases h
 | d+1,k,e,h=>by
  rw [sumFrom] at h
  rcases List.mem_cons.1 h with rfl|h
  ·have:=rd_in a n ha k
   have:=rd_in b n hb k
   rw [w64 (by omega) (by omega)]
   unfold cap2
   split <;> omega
  ·exact sumFrom_ok n a b ha hb d (k+1) e h
theorem addRow_ok (n:Nat) (a b:List Int) (ha:RowOk n a) (hb:RowOk n b):RowOk n (addRow a b):=⟨by unfold addRow;rw [sumFrom_length];exact ha.1,sumFrom_ok n a b ha hb _ _⟩
theorem base0_ok (n m:Nat):RowsOk n m (base0 n m):=by
 refine ⟨base0_length n m,fun r hr=>?_⟩
 unfold base0 at hr
 obtain ⟨i,_,rfl⟩:=List.mem_map.1 hr
 refine ⟨by unfold row0;simp,fun e he=>?_⟩
 unfold row0 at he
 rcases List.mem_or_eq_of_mem_set he with h|rfl
 ·have:=(List.mem_replicate.1 h).2
  omega
 ·omega
theorem RowsOk.snoc {n m:Nat} {rows:List (List Int)} {r:List Int} (h:RowsOk n m rows) (hr:RowOk n r):RowsOk n (m+1) (rows++[r]):=⟨by rw [List.length_append,h.1];rfl,fun q hq=>by
 rcases List.mem_append.1 hq with h1|h1
 ·exact h.2 q h1
 ·rw [List.mem_singleton.1 h1];exact hr⟩
theorem grow_ok (n:Nat) (ss:List (S73)) (ho:InOrder n ss):∀ (d i:Nat) (rows:List (List Int)),i+d=ss.length→RowsOk n (n+i) rows→RowsOk n (n+ss.length) (grow ss d i rows):=by
 intro d
 induction d with
 | zero=>
  intro i rows hd h
  obtain rfl:i=ss.length:=by omega
  exact h
 | succ d ih=>
  intro i rows hd h
  obtain ⟨h1,h2,h3⟩:=ho i (by omega)
  have hl:=h.1
  rw [grow]
  exact ih (i+1) _ (by omega) (h.snoc (addRow_ok n _ _ (h.2 _ (rd_mem rows _ h1 (by omega))) (h.2 _ (rd_mem rows _ (by omega) (by omega)))))
theorem exps_ok (n:Nat) (ss:List (S73)) (ho:InOrder n ss):RowsOk n (n+ss.length) (exps n ss):=grow_ok n ss ho ss.length 0 _ (by omega) (base0_ok n n)
theorem plSum_ev (a b:List Int) (hl:b.length=a.length) (ha:a.length≤1000):Ev (fun k=>spec_plSum.f k a b) (addRow a b):=by
 have loop:∀ (d:Nat) (i:Int) (acc:List Int),0≤i→i+d=a.length→acc.length+d≤1000000→Ev (fun k=>spec_plSum.l0 k a b acc a.length i) (acc++sumFrom a b d i):=by
  intro d
  induction d with
  | zero=>
   intro i acc h0 hd _
   refine ev_shift ?_
   simp only [spec_plSum.l0,if_neg (show ¬ i < (a.length:Int) by omega),sumFrom,List.append_nil]
   exact Ev.now _
  | succ d ih=>
   intro i acc h0 hd hacc
   have e:∀ x:Int,spec_l1Least.f x 1000001=some (cap2 x):=fun x=>by
    unfold spec_l1Least.f cap2
    split <;> rfl
   refine ev_shift ?_
   simp only [spec_plSum.l0,if_pos (show i < (a.length:Int) by omega),if_pos h0,if_pos (show i < (b.length:Int) by omega),if_pos (show acc.length < 17592186044416 by omega),e,Option.bind_some,w64 (show -9223372036854775808≤i+1 by omega) (by omega),sumFrom]
   have:=ih (i+1) (acc++[cap2 (wrap64 (rd a i+rd b i))]) (by omega) (by omega) (by simp only [List.length_append,List.length_singleton];omega)
   rwa [List.append_assoc,List.singleton_append] at this
 unfold spec_plSum.f addRow
 have:=loop a.length 0 [] (by omega) (by omega) (by simp;omega)
 rwa [List.nil_append] at this
theorem plExponents_ev (n:Nat) (ss:List (S73)) (os:List Int) (hn:n≤6) (hs:ss.length≤40) (ho:InOrder n ss):Ev (fun k=>spec_plExponents.f k n ss os) (exps n ss):=by
 have second:∀ (d i:Nat) (rows:List (List Int)),i+d=ss.length→RowsOk n (n+i) rows→Ev (fun k=>spec_plExponents.l1 k rows ss ss.length i) (grow ss d i rows):=by
  intro d
  induction d with
  | zero=>
   intro i rows hd _
   refine ev_shift ?_
   simp only [spec_plExponents.l1,if_neg (show ¬ (i:Int) < (ss.length:Int) by omega),grow]
   exact Ev.now _
  | succ d ih=>
   intro i rows hd h
   obtain ⟨h1,h2,h3⟩:=ho i (by omega)
   have hl:=h.1
   have ra:=h.2 _ (rd_mem rows (rd_T73 ss i).f0 h1 (by omega))
   have rb:=h.2 _ (rd_mem rows (rd_T73 ss i).f1 (by omega) (by omega))
   refine ev_shift ?_
   simp only [spec_plExponents.l1,if_pos (show (i:Int) < (ss.length:Int) by omega),if_pos (show (0:Int)≤(i:Int) by omega),if_pos h1,if_pos (show (rd_T73 ss i).f0 < (rows.length:Int) by omega),if_pos (show 0≤(rd_T73 ss i).f1 by omega),if_pos (show (rd_T73 ss i).f1 < (rows.length:Int) by omega),if_pos (show rows.length < 5864062014805 by omega),w64 (show -9223372036854775808≤(i:Int)+1 by omega) (by omega),grow]
   refine ev_bind (plSum_ev _ _ (by rw [ra.1,rb.1]) (by rw [ra.1];omega)) ?_
   exact ih (i+1) _ (by omega) (h.snoc (addRow_ok n _ _ ra rb))
 have first_:∀ (d i:Nat),i+d=n→Ev (fun k=>spec_plExponents.l0 k (base0 n i) i n ss os) (exps n ss):=by
  intro d
  induction d with
  | zero=>
   intro i hd
   obtain rfl:i=n:=by omega
   refine ev_shift ?_
   simp only [spec_plExponents.l0,if_neg (show ¬ (i:Int) < (i:Int) by omega)]
   exact second ss.length 0 _ (by omega) (base0_ok i i)
  | succ d ih=>
   intro i hd
   refine ev_shift ?_
   simp only [spec_plExponents.l0,if_pos (show (i:Int) < (n:Int) by omega),if_pos (show (0:Int)≤(n:Int) by omega),Int.toNat_natCast,if_pos (show n≤35184372088832 by omega),Option.bind_some,if_pos (show (0:Int)≤(i:Int) by omega),List.length_replicate,base0_length,if_pos (show i < 5864062014805 by omega),w64 (show -9223372036854775808≤(i:Int)+1 by omega) (by omega)]
   have:=ih (i+1) (by omega)
   rw [base0_succ] at this
   exact this
 exact first_ n 0 (by omega)
theorem exponents_ev (n:Nat) (ss:List (S73)) (os:List Int) (hn:n≤6) (hs:ss.length≤40) (ho:InOrder n ss):Ev (fun k=>impl_Plan_exponents.f k n ss os) (exps n ss):=by
 have inner:∀ (rows:List (List Int)) (i:Nat) (A B:Int) (r:List (List Int)),rows.length≤100→RowOk n (rd_L3 rows A)→RowOk n (rd_L3 rows B)→0≤B→B < rows.length→Ev (fun k=>impl_Plan_exponents.l1 k (rows++[addRow (rd_L3 rows A) (rd_L3 rows B)]) ss ss.length (wrap64 ((i:Int)+1))) r→∀ (d:Nat) (j:Int) (acc:List Int),0≤j→j+d=(rd_L3 rows A).length→acc.length+d≤1000000→acc++sumFrom (rd_L3 rows A) (rd_L3 rows B) d j=addRow (rd_L3 rows A) (rd_L3 rows B)→Ev (fun k=>impl_Plan_exponents.l2 k rows acc ss ss.length i (rd_L3 rows A) (rd_L3 rows A).length j A B) r:=by
  intro rows i A B r hl ra rb hb0 hb1 hr d
  induction d with
  | zero=>
   intro j acc h0 hd _ he
   rw [sumFrom,List.append_nil] at he
   refine ev_shift ?_
   simp only [impl_Plan_exponents.l2,if_neg (show ¬ j < ((rd_L3 rows A).length:Int) by omega),if_pos (show rows.length < 5864062014805 by omega)]
   rw [he]
   exact hr
  | succ d ih=>
   intro j acc h0 hd hacc he
   have hlen:(rd_L3 rows B).length=(rd_L3 rows A).length:=by rw [ra.1,rb.1]
   have e:∀ x:Int,mn x 1000001=cap2 x:=fun x=>by
    unfold mn cap2
    split <;> split <;> omega
   refine ev_shift ?_
   simp only [impl_Plan_exponents.l2,if_pos (show j < ((rd_L3 rows A).length:Int) by omega),if_pos h0,if_pos hb0,if_pos hb1,if_pos (show j < ((rd_L3 rows B).length:Int) by omega),if_pos (show acc.length < 17592186044416 by omega),e,w64 (show -9223372036854775808≤j+1 by omega) (by have:=ra.1;omega)]
   rw [sumFrom] at he
   exact ih (j+1) _ (by omega) (by omega) (by simp only [List.length_append,List.length_singleton];omega) (by rw [List.append_assoc,List.singleton_append];exact he)
 have second:∀ (d i:Nat) (rows:List (List Int)),i+d=ss.length→RowsOk n (n+i) rows→Ev (fun k=>impl_Plan_exponents.l1 k rows ss ss.length i) (grow ss d i rows):=by
  intro d
  induction d with
  | zero=>
   intro i rows hd _
   refine ev_shift ?_
   simp only [impl_Plan_exponents.l1,if_neg (show ¬ (i:Int) < (ss.length:Int) by omega),grow]
   exact Ev.now _
  | succ d ih=>
   intro i rows hd h
   obtain ⟨h1,h2,h3⟩:=ho i (by omega)
   have hl:=h.1
   have ra:=h.2 _ (rd_mem rows (rd_T73 ss i).f0 h1 (by omega))
   have rb:=h.2 _ (rd_mem rows (rd_T73 ss i).f1 (by omega) (by omega))
   refine ev_shift ?_
   simp only [impl_Plan_exponents.l1,if_pos (show (i:Int) < (ss.length:Int) by omega),if_pos (show (0:Int)≤(i:Int) by omega),if_pos h1,if_pos (show (rd_T73 ss i).f0 < (rows.length:Int) by omega),grow]
   refine inner rows i _ _ _ (by omega) ra rb (by omega) (by omega) ?_ (rd_L3 rows (rd_T73 ss i).f0).length 0 [] (by omega) (by omega) (by have:=ra.1;simp;omega) (by rw [List.nil_append];rfl)
   rw [w64 (by omega) (by omega)]
   exact ih (i+1) _ (by omega) (h.snoc (addRow_ok n _ _ ra rb))
 have first_:∀ (d i:Nat),i+d=n→Ev (fun k=>impl_Plan_exponents.l0 k (base0 n i) n i n ss os) (exps n ss):=by
  intro d
  induction d with
  | zero=>
   intro i hd
   obtain rfl:i=n:=by omega
   refine ev_shift ?_
   simp only [impl_Plan_exponents.l0,if_neg (show ¬ (i:Int) < (i:Int) by omega)]
   exact second ss.length 0 _ (by omega) (base0_ok i i)
  | succ d ih=>
   intro i hd
   refine ev_shift ?_
   simp only [impl_Plan_exponents.l0,if_pos (show (i:Int) < (n:Int) by omega),if_pos (show (0:Int)≤(n:Int) by omega),Int.toNat_natCast,if_pos (show n≤35184372088832 by omega),Option.bind_some,if_pos (show (0:Int)≤(i:Int) by omega),List.length_replicate,base0_length,if_pos (show i < 5864062014805 by omega),w64 (show -9223372036854775808≤(i:Int)+1 by omega) (by omega)]
   have:=ih (i+1) (by omega)
   rw [base0_succ] at this
   exact this
 exact first_ n 0 (by omega)
def goodFrom (rows:List (List Int)):Nat→Int→Bool
 | 0,_=>true
 | d+1,i=>if allFrom (rd_L3 rows i) 0 1000000 (rd_L3 rows i).length 0=true then goodFrom rows d (i+1) else false
def planOk (n:Int) (ss:List (S73)) (os:List Int):Bool:=impl_IsPlan.formed n ss os && goodFrom (exps n.toNat ss) (exps n.toNat ss).length 0
theorem goodFrom_all (rows:List (List Int)):∀ (xs pre:List (List Int)),rows=pre++xs→goodFrom rows xs.length (pre.length:Int)=xs.all (fun r=>allFrom r 0 1000000 r.length 0)
 | [],pre,_=>rfl
 | x :: xs,pre,h=>by
  have e:rd_L3 rows (pre.length:Int)=x:=by
   unfold rd_L3
   rw [Int.toNat_natCast,h]
   simp [List.getD_eq_getElem?_getD]
  have:=goodFrom_all rows xs (pre++[x]) (by rw [h,List.append_assoc];rfl)
  rw [List.length_append] at this
  rw [List.length_cons,goodFrom,e,List.all_cons]
  cases allFrom x 0 1000000 x.length 0 with
  | true=>rw [if_pos rfl,Bool.true_and,← this];rfl
  | false=>rw [if_neg (by decide),Bool.false_and]
theorem goodFrom_eq (rows:List (List Int)):goodFrom rows rows.length 0=rows.all (fun r=>allFrom r 0 1000000 r.length 0):=goodFrom_all rows rows [] rfl
theorem steps_order (n:Nat) (ss:List (S73)):∀ (d i:Nat),impl_IsPlan.steps n ss d i=true→∀ j,i≤j→j < i+d→0≤(rd_T73 ss j).f0∧(rd_T73 ss j).f0≤(rd_T73 ss j).f1∧(rd_T73 ss j).f1 < n+j:=by
 intro d
 induction d with
 | zero=>intro i _ j h1 h2;omega
 | succ d ih=>
  intro i h j h1 h2
  rw [impl_IsPlan.steps] at h
  by_cases k1:(rd_T73 ss i).f0 < 0
  ·rw [if_pos k1] at h;cases h
  ·rw [if_neg k1] at h
   by_cases k2:(rd_T73 ss i).f0 > (rd_T73 ss i).f1
   ·rw [if_pos k2] at h;cases h
   ·rw [if_neg k2] at h
    by_cases k3:(rd_T73 ss i).f1 ≥ (n:Int)+i
    ·rw [if_pos k3] at h;cases h
    ·rw [if_neg k3] at h
     by_cases e:j=i
     ·subst e;omega
     ·exact ih (i+1) h j (by omega) (by omega)
theorem order_of (n:Nat) (ss:List (S73)) (h:impl_IsPlan.steps n ss ss.length 0=true):InOrder n ss:=fun i hi=>steps_order n ss ss.length 0 h i (by omega) (by omega)
theorem formed_of {n:Int} {ss:List (S73)} {os:List Int} (h:impl_IsPlan.formed n ss os=true):(1≤n∧n≤6)∧ss.length≤40∧os.length≤6∧impl_IsPlan.steps n ss ss.length 0=true∧anyIx (impl_IsPlan.outs n ss os) os.length 0=false:=by
 unfold impl_IsPlan.formed at h
 by_cases c1:1≤n∧n≤6
 ·rw [if_pos c1] at h
  by_cases c2:ss.length≤40
  ·rw [if_pos c2] at h
   by_cases c3:os.length≤6
   ·rw [if_pos c3] at h
    by_cases c4:impl_IsPlan.steps n ss ss.length 0=true
    ·rw [if_pos c4] at h
     exact ⟨c1,c2,c3,c4,by simpa using h⟩
    ·rw [if_neg c4] at h;cases h
   ·rw [if_neg c3] at h;cases h
  ·rw [if_neg c2] at h;cases h
 ·rw [if_neg c1] at h;cases h
def maxFrom (xs:List Int):Nat→Int→Int→Int
 | 0,_,m=>m
 | d+1,i,m=>maxFrom xs d (i+1) (mx m (rd xs i))
theorem max_ev (xs:List Int) (h0:0 < xs.length) (hl:xs.length≤1000000):Ev (fun k=>slices_Max_int_int.f k xs) (maxFrom xs (xs.length - 1) 1 (rd xs 0)):=by
 have loop:∀ (d:Nat) (i m:Int),0≤i→i+d=xs.length→Ev (fun k=>slices_Max_int_int.l0 k xs m i) (maxFrom xs d i m):=by
  intro d
  induction d with
  | zero=>
   intro i m _ hd
   refine ev_shift ?_
   simp only [slices_Max_int_int.l0,if_neg (show ¬ i < (xs.length:Int) by omega),maxFrom]
   exact Ev.now _
  | succ d ih=>
   intro i m h0 hd
   refine ev_shift ?_
   simp only [slices_Max_int_int.l0,if_pos (show i < (xs.length:Int) by omega),if_pos h0,w64 (show -9223372036854775808≤i+1 by omega) (by omega),maxFrom]
   exact ih (i+1) _ (by omega) (by omega)
 unfold slices_Max_int_int.f
 simp only [if_neg (show ¬ (xs.length:Int) < 1 by omega),if_pos (show (0:Int) < (xs.length:Int) by omega)]
 exact loop (xs.length - 1) 1 _ (by omega) (by omega)
theorem max_all (n:Nat) (xs:List Int) (hx:RowOk n xs):∀ (d:Nat) (i m:Int),decide (maxFrom xs d i m > 1000000) = !(decide (m≤1000000) && allFrom xs 0 1000000 d i)
 | 0,i,m=>by
  rw [maxFrom,allFrom,Bool.and_true]
  by_cases c:m≤1000000
  ·rw [decide_eq_true c,decide_eq_false (by omega)];rfl
  ·rw [decide_eq_false c,decide_eq_true (by omega)];rfl
 | d+1,i,m=>by
  have hr:=rd_in xs n hx i
  rw [maxFrom,max_all n xs hx d (i+1),allFrom]
  by_cases c:m≤1000000
  ·rw [decide_eq_true c]
   by_cases c2:rd xs i≤1000000
   ·rw [if_pos ⟨hr.1,c2⟩,decide_eq_true (by unfold mx;split <;> omega)]
   ·rw [if_neg (by omega),decide_eq_false (by unfold mx;split <;> omega)];rfl
  ·rw [decide_eq_false c,decide_eq_false (by unfold mx;split <;> omega)];rfl
theorem top_ev (n:Nat) (hn:1≤n) (hn6:n≤6):∀ (rows:List (List Int)),(∀ r∈rows,RowOk n r)→Ev (fun k=>impl_IsPlan.top k rows) (!(rows.all (fun r=>allFrom r 0 1000000 r.length 0)))
 | [],_=>Ev.now _
 | x :: xs,h=>by
  have hx:=h x (List.mem_cons_self ..)
  have hxl:=hx.1
  refine ev_bind (max_ev x (by omega) (by omega)) ?_
  refine ev_bind (top_ev n hn hn6 xs (fun r hr=>h r (List.mem_cons_of_mem _ hr))) ?_
  have e:decide (maxFrom x (x.length - 1) 1 (rd x 0) > 1000000) = !(allFrom x 0 1000000 x.length 0):=by
   obtain ⟨m,hm⟩ : ∃ m,x.length=m+1:=⟨x.length - 1,by omega⟩
   have hr:=rd_in x n hx 0
   rw [hm,Nat.add_sub_cancel,max_all n x hx,allFrom]
   by_cases c:rd x 0≤1000000
   ·rw [decide_eq_true c,if_pos ⟨hr.1,c⟩,Bool.true_and];rfl
   ·rw [decide_eq_false c,if_neg (by omega)];rfl
  have e2:(decide (maxFrom x (x.length - 1) 1 (rd x 0) > 1000000) || !(xs.all fun r=>allFrom r 0 1000000 r.length 0)) = !((x :: xs).all fun r=>allFrom r 0 1000000 r.length 0):=by
   rw [e,List.all_cons,Bool.not_and]
  simp only [e2]
  exact Ev.now _
theorem isPlan_ev (n:Int) (ss:List (S73)) (os:List Int):Ev (fun k=>impl_IsPlan.f k n ss os) (planOk n ss os):=by
 unfold impl_IsPlan.f planOk
 by_cases c:impl_IsPlan.formed n ss os=true
 ·obtain ⟨h1,h2,h3,h4,h5⟩:=formed_of c
  obtain ⟨m,rfl⟩:=Int.eq_ofNat_of_zero_le (show 0≤n by omega)
  have ho:=order_of m ss h4
  have hok:=exps_ok m ss ho
  simp only [c,if_true,Bool.true_and,Int.toNat_natCast]
  refine ev_bind (exponents_ev m ss os (by omega) h2 ho) ?_
  refine ev_bind (top_ev m (by omega) (by omega) _ hok.2) ?_
  rw [goodFrom_eq,Bool.not_not]
  exact Ev.now _
 ·simp only [Bool.eq_false_iff.mpr c,Bool.false_and]
  exact Ev.now _
theorem outs_all (n:Int) (ss:List (S73)) (os:List Int):∀ (d i:Nat),anyIx (impl_IsPlan.outs n ss os) d i = !(allFrom os 0 (n+ss.length - 1) d i)
 | 0,_=>rfl
 | d+1,i=>by
  have ih:=outs_all n ss os d (i+1)
  rw [anyIx,allFrom,ih]
  unfold impl_IsPlan.outs
  by_cases c:0≤rd os i∧rd os i≤n+ss.length - 1
  ·rw [if_pos c,decide_eq_true c.1,decide_eq_true c.2];rfl
  ·rw [if_neg c]
   have e:(decide (0≤rd os (i:Int)) && decide (rd os (i:Int)≤n+ss.length - 1))=false:=by rw [Bool.and_eq_false_iff,decide_eq_false_iff_not,decide_eq_false_iff_not];omega
   rw [e];rfl
theorem plGood_ev (n:Int) (ss:List (S73)) (os:List Int):Ev (fun k=>spec_plGood.f k n ss os) (planOk n ss os):=by
 have no:∀ b:Bool,planOk n ss os=false→b=true→Ev (fun k=>spec_plGood.j0 k b n ss os) (planOk n ss os):=by
  intro b h hb
  subst hb
  refine ev_shift ?_
  simp only [spec_plGood.j0,if_true,h]
  exact Ev.now _
 unfold spec_plGood.f
 simp only [l1In_eq,Option.bind_some]
 by_cases c1:1≤n∧n≤6
 ·simp only [decide_eq_true c1.1,decide_eq_true c1.2,Bool.and_self,if_true]
  by_cases c2:ss.length≤40
  ·simp only [if_neg (show ¬ (ss.length:Int) > 40 by omega)]
   by_cases c3:os.length≤6
   ·have e3:decide ((os.length:Int) > 6)=false:=decide_eq_false (by omega)
    simp only [e3]
    obtain ⟨m,rfl⟩:=Int.eq_ofNat_of_zero_le (show 0≤n by omega)
    refine ev_shift ?_
    simp only [spec_plGood.j0,Bool.false_eq_true,if_false]
    have rows:∀ (rs:List (List Int)),rs.length≤1000→(∀ r∈rs,RowOk m r)→∀ (d:Nat) (i:Int),0≤i→i+d=rs.length→Ev (fun k=>spec_plGood.l1 k rs rs.length i m ss os) (goodFrom rs d i && allFrom os 0 ((m:Int)+ss.length - 1) os.length 0):=by
     intro rs hl hok d
     induction d with
     | zero=>
      intro i h0 hd
      refine ev_shift ?_
      simp only [spec_plGood.l1,if_neg (show ¬ i < (rs.length:Int) by omega),goodFrom,Bool.true_and]
      rw [w64 (show -9223372036854775808≤(m:Int)+(ss.length:Int) by omega) (by omega),w64 (by omega) (by omega)]
      exact ev_bind (l1All_ev os 0 _ (by omega)) (Ev.now _)
     | succ d ih=>
      intro i h0 hd
      have hr:=(hok _ (rd_mem rs i h0 (by omega))).1
      refine ev_shift ?_
      simp only [spec_plGood.l1,if_pos (show i < (rs.length:Int) by omega),if_pos h0,w64 (show -9223372036854775808≤i+1 by omega) (by omega),goodFrom]
      refine ev_bind (l1All_ev _ 0 1000000 (by omega)) ?_
      by_cases c:allFrom (rd_L3 rs i) 0 1000000 (rd_L3 rs i).length 0=true
      ·simp only [c,if_true]
       exact ih (i+1) (by omega) (by omega)
      ·simp only [if_neg c,Bool.false_and]
       exact Ev.now _
    have steps:∀ (r:Bool) (d i:Nat),i+d=ss.length→(impl_IsPlan.steps m ss d i=true→Ev (fun k=>(spec_plExponents.f k m ss os).bind fun t=>spec_plGood.l1 k t t.length 0 m ss os) r)→(impl_IsPlan.steps m ss d i=false→r=false)→Ev (fun k=>spec_plGood.l0 k ss ss.length i m ss os) r:=by
     intro r d
     induction d with
     | zero=>
      intro i hd h1 _
      refine ev_shift ?_
      simp only [spec_plGood.l0,if_neg (show ¬ (i:Int) < (ss.length:Int) by omega)]
      exact h1 rfl
     | succ d ih=>
      intro i hd h1 h2
      rw [impl_IsPlan.steps] at h1 h2
      refine ev_shift ?_
      simp only [spec_plGood.l0,if_pos (show (i:Int) < (ss.length:Int) by omega),if_pos (show (0:Int)≤(i:Int) by omega),l1In_eq,Option.bind_some,w64 (show -9223372036854775808≤(m:Int)+(i:Int) by omega) (by omega),w64 (show -9223372036854775808≤(i:Int)+1 by omega) (by omega)]
      by_cases k1:(rd_T73 ss i).f0 < 0
      ·rw [if_pos k1] at h2
       rw [h2 rfl]
       simp only [decide_eq_false (show ¬ 0≤(rd_T73 ss i).f0 by omega),Bool.false_and,Bool.false_eq_true,if_false]
       exact Ev.now _
      ·rw [if_neg k1] at h1 h2
       by_cases k2:(rd_T73 ss i).f0 > (rd_T73 ss i).f1
       ·rw [if_pos k2] at h2
        rw [h2 rfl]
        simp only [decide_eq_false (show ¬ (rd_T73 ss i).f0≤(rd_T73 ss i).f1 by omega),Bool.and_false,Bool.false_eq_true,if_false]
        exact Ev.now _
       ·rw [if_neg k2] at h1 h2
        simp only [decide_eq_true (show 0≤(rd_T73 ss i).f0 by omega),decide_eq_true (show (rd_T73 ss i).f0≤(rd_T73 ss i).f1 by omega),Bool.and_self,if_true]
        by_cases k3:(rd_T73 ss i).f1 ≥ (m:Int)+i
        ·rw [if_pos k3] at h2
         rw [h2 rfl]
         simp only [if_pos k3]
         exact Ev.now _
        ·rw [if_neg k3] at h1 h2
         simp only [if_neg k3]
         exact ih (i+1) (by omega) h1 h2
    refine steps _ ss.length 0 (by omega) (fun hs=>?_) (fun hs=>?_)
    ·have ho:=order_of m ss hs
     have hok:=exps_ok m ss ho
     have hlen:=hok.1
     refine ev_bind (plExponents_ev m ss os (by omega) c2 ho) ?_
     have:=rows (exps m ss) (by omega) hok.2 (exps m ss).length 0 (by omega) (by omega)
     have e:planOk m ss os=(goodFrom (exps m ss) (exps m ss).length 0 && allFrom os 0 ((m:Int)+ss.length - 1) os.length 0):=by
      unfold planOk impl_IsPlan.formed
      rw [if_pos c1,if_pos c2,if_pos c3,if_pos hs,outs_all,Bool.not_not,Bool.and_comm,Int.toNat_natCast]
      rfl
     rw [e]
     exact this
    ·unfold planOk impl_IsPlan.formed
     rw [if_pos c1,if_pos c2,if_pos c3,if_neg (by rw [hs];decide),Bool.false_and]
   ·exact no _ (by unfold planOk impl_IsPlan.formed;rw [if_pos c1,if_pos c2,if_neg c3,Bool.false_and]) (decide_eq_true (by omega))
  ·simp only [if_pos (show (ss.length:Int) > 40 by omega)]
   exact no _ (by unfold planOk impl_IsPlan.formed;rw [if_pos c1,if_neg c2,Bool.false_and]) rfl
 ·have e:(decide (1≤n) && decide (n≤6))=false:=by rw [Bool.and_eq_false_iff,decide_eq_false_iff_not,decide_eq_false_iff_not];omega
  simp only [e,Bool.false_eq_true,if_false]
  exact no _ (by unfold planOk impl_IsPlan.formed;rw [if_neg c1,Bool.false_and]) rfl
theorem planOk_of {n:Int} {ss:List (S73)} {os:List Int} (h:planOk n ss os=true) : ∃ m:Nat,n=m∧1≤m∧m≤6∧ss.length≤40∧os.length≤6∧InOrder m ss∧(∀ j:Nat,j < os.length→0≤rd os j∧rd os j≤(m:Int)+ss.length - 1)∧∀ r∈exps m ss,∀ e∈r,0≤e∧e≤1000000:=by
 unfold planOk at h
 rw [Bool.and_eq_true] at h
 obtain ⟨h1,h2,h3,h4,h5⟩:=formed_of h.1
 obtain ⟨m,rfl⟩:=Int.eq_ofNat_of_zero_le (show 0≤n by omega)
 have all_rd:∀ (xs:List Int) (a b:Int) (d i:Nat),allFrom xs a b d i=true→∀ j:Nat,i≤j→j < i+d→a≤rd xs j∧rd xs j≤b:=by
  intro xs a b d
  induction d with
  | zero=>intro i _ j h1 h2;omega
  | succ d ih=>
   intro i h j h1 h2
   rw [allFrom] at h
   by_cases c:a≤rd xs i∧rd xs i≤b
   ·rw [if_pos c] at h
    by_cases e:j=i
    ·subst e;exact c
    ·exact ih (i+1) h j (by omega) (by omega)
   ·rw [if_neg c] at h;cases h
 refine ⟨m,rfl,by omega,by omega,h2,h3,order_of m ss h4,fun j hj=>?_,fun r hr e he=>?_⟩
 ·rw [outs_all,Bool.not_eq_false'] at h5
  exact all_rd os _ _ os.length 0 h5 j (by omega) (by omega)
 ·have h6:=h.2
  rw [Int.toNat_natCast,goodFrom_eq] at h6
  have h7:=List.all_eq_true.1 h6 r hr
  obtain ⟨j,hj,rfl⟩:=List.mem_iff_getElem.1 he
  have:=all_rd r 0 1000000 r.length 0 h7 j (by omega) (by omega)
  rw [rd_nat] at this
  simpa [List.getD_eq_getElem?_getD,hj] using this
def marked (n:Nat) (a:Int):List Int:=(List.range n).map (fun j:Nat=>a+(j:Int))
theorem marked_length (n:Nat) (a:Int):(marked n a).length=n:=by simp [marked]
theorem marked_succ (n:Nat) (a:Int):marked (n+1) a=marked n a++[a+n]:=by simp [marked,List.range_succ]
theorem marked_get (n:Nat) (a:Int) (j:Nat) (h:j < n):(marked n a).getD j 0=a+j:=by simp [marked,List.getD,h]
theorem marked_step (xs:List Int) (a:Int) (i:Nat) (h:i < xs.length):(marked i a++xs.drop i).set i (a+i)=marked (i+1) a++xs.drop (i+1):=by
 rw [List.set_append_right _ _ (by rw [marked_length];exact Nat.le_refl _),marked_length,Nat.sub_self,List.drop_eq_getElem_cons h,List.set_cons_zero,marked_succ]
 simp
theorem markIntS_ev (xs:List Int) (a:Int) (h0:0≤a) (ha:a+xs.length≤4611686018427387904):Ev (fun k=>laws_markIntS.f k xs a) (a+xs.length,marked xs.length a):=by
 have loop:∀ (d k i:Nat),i≤xs.length→xs.length - i=d→d < k→laws_markIntS.l0 k (marked i a++xs.drop i) (a+i) i=some (a+xs.length,marked xs.length a):=by
  intro d
  induction d with
  | zero=>
   intro k i h1 hd hk
   obtain ⟨k,rfl⟩ : ∃ m,k=m+1:=⟨k - 1,by omega⟩
   obtain rfl:i=xs.length:=by omega
   have hl:(marked xs.length a++xs.drop xs.length).length=xs.length:=by simp [marked_length]
   rw [laws_markIntS.l0,hl,if_neg (by omega)]
   simp
  | succ d ih=>
   intro k i h1 hd hk
   obtain ⟨k,rfl⟩ : ∃ m,k=m+1:=⟨k - 1,by omega⟩
   have hl:(marked i a++xs.drop i).length=xs.length:=by simp [marked_length];omega
   rw [laws_markIntS.l0,hl,if_pos (by omega),if_pos (by omega),Int.toNat_natCast,marked_step xs a i (by omega),w64 (by omega) (by omega),w64 (by omega) (by omega)]
   have e:a+(i:Int)+1=a+((i+1:Nat):Int):=by omega
   rw [e]
   exact ih k (i+1) (by omega) (by omega) (by omega)
 refine ⟨xs.length+1,fun k hk=>?_⟩
 have h:=loop xs.length k 0 (by omega) (by omega) (by omega)
 simpa [marked,laws_markIntS.f] using h
theorem heldIntS_ev (n:Nat) (a:Int) (h0:0≤a) (ha:a+n≤4611686018427387904):Ev (fun k=>laws_heldIntS.f k (marked n a) a) (a+n):=by
 have loop:∀ (d k i:Nat),i≤n→n - i=d→d < k→laws_heldIntS.l0 k (marked n a) (a+i) i=some (a+n):=by
  intro d
  induction d with
  | zero=>
   intro k i h1 hd hk
   obtain ⟨k,rfl⟩ : ∃ m,k=m+1:=⟨k - 1,by omega⟩
   obtain rfl:i=n:=by omega
   rw [laws_heldIntS.l0,marked_length,if_neg (by omega)]
  | succ d ih=>
   intro k i h1 hd hk
   obtain ⟨k,rfl⟩ : ∃ m,k=m+1:=⟨k - 1,by omega⟩
   rw [laws_heldIntS.l0,marked_length,if_pos (by omega),if_pos (by omega),rd_nat,marked_get n a i (by omega),if_pos rfl,w64 (by omega) (by omega),w64 (by omega) (by omega)]
   have e:a+(i:Int)+1=a+((i+1:Nat):Int):=by omega
   rw [e]
   exact ih k (i+1) (by omega) (by omega) (by omega)
 refine ⟨n+1,fun k hk=>?_⟩
 have h:=loop n k 0 (by omega) (by omega) (by omega)
 simpa [laws_heldIntS.f] using h
abbrev St:=S73
abbrev rdS (ss:List St) (i:Int):St:=rd_T73 ss i
def markedS (n:Nat) (a:Int):List St:=(List.range n).map (fun j:Nat=>(⟨a+2*(j:Int),a+2*(j:Int)+1⟩ : St))
theorem markedS_length (n:Nat) (a:Int):(markedS n a).length=n:=by simp [markedS]
theorem markedS_succ (n:Nat) (a:Int):markedS (n+1) a=markedS n a++[⟨a+2*(n:Int),a+2*(n:Int)+1⟩]:=by simp [markedS,List.range_succ]
theorem rdS_nat (ss:List St) (j:Nat):rdS ss (j:Int)=ss.getD j z73:=by unfold rdS rd_T73;rw [Int.toNat_natCast]
theorem markedS_get (n:Nat) (a:Int) (j:Nat) (h:j < n):rdS (markedS n a) (j:Int) = ⟨a+2*(j:Int),a+2*(j:Int)+1⟩:=by rw [rdS_nat];simp [markedS,List.getD,h]
theorem setS (l:List St) (x:St) (y:St) (t:List St):(l++x :: t).set l.length y=l++y :: t:=by
 rw [List.set_append_right _ _ (Nat.le_refl _),Nat.sub_self,List.set_cons_zero]
theorem getS (l:List St) (x:St) (t:List St):rdS (l++x :: t) (l.length:Int)=x:=by
 rw [rdS_nat];simp [List.getD]
theorem markStepS_ev (xs:List St) (a:Int) (h0:0≤a) (ha:a+2*xs.length≤4611686018427387904):Ev (fun k=>laws_markStepS.f k xs a) (a+2*xs.length,markedS xs.length a):=by
 have loop:∀ (d k i:Nat),i≤xs.length→xs.length - i=d→d < k→laws_markStepS.l0 k (markedS i a++xs.drop i) (a+2*i) i=some (a+2*xs.length,markedS xs.length a):=by
  intro d
  induction d with
  | zero=>
   intro k i h1 hd hk
   obtain ⟨k,rfl⟩ : ∃ m,k=m+1:=⟨k - 1,by omega⟩
   obtain rfl:i=xs.length:=by omega
   have hl:(markedS xs.length a++xs.drop xs.length).length=xs.length:=by simp [markedS_length]
   rw [laws_markStepS.l0,hl,if_neg (by omega)]
   simp
  | succ d ih=>
   intro k i h1 hd hk
   obtain ⟨k,rfl⟩ : ∃ m,k=m+1:=⟨k - 1,by omega⟩
   have hlt:i < xs.length:=by omega
   have hl:(markedS i a++xs.drop i).length=xs.length:=by simp [markedS_length];omega
   have hm:=markedS_length i a
   rw [laws_markStepS.l0,hl,if_pos (by omega),if_pos (by omega),Int.toNat_natCast,List.drop_eq_getElem_cons hlt]
   have e1:=setS (markedS i a) xs[i] ⟨a+2*(i:Int),(rdS (markedS i a++xs[i] :: xs.drop (i+1)) (i:Int)).f1⟩ (xs.drop (i+1))
   rw [hm] at e1
   unfold rdS at e1
   rw [e1]
   simp only [Option.bind_some]
   have e2:=getS (markedS i a) ⟨a+2*(i:Int),(rdS (markedS i a++xs[i] :: xs.drop (i+1)) (i:Int)).f1⟩ (xs.drop (i+1))
   rw [hm] at e2
   unfold rdS at e2
   rw [e2]
   have e3:=setS (markedS i a) ⟨a+2*(i:Int),(rdS (markedS i a++xs[i] :: xs.drop (i+1)) (i:Int)).f1⟩ ⟨a+2*(i:Int),a+2*(i:Int)+1⟩ (xs.drop (i+1))
   rw [hm] at e3
   unfold rdS at e3
   rw [w64 (show -9223372036854775808≤a+2*(i:Int)+1 by omega) (by omega),e3,w64 (show -9223372036854775808≤a+2*(i:Int)+1+1 by omega) (by omega),w64 (show -9223372036854775808≤(i:Int)+1 by omega) (by omega)]
   have h:=ih k (i+1) (by omega) (by omega) (by omega)
   rw [markedS_succ,List.append_assoc,List.singleton_append] at h
   have e4:a+2*((i+1:Nat):Int)=a+2*(i:Int)+1+1:=by omega
   rw [e4] at h
   exact h
 refine ⟨xs.length+1,fun k hk=>?_⟩
 have h:=loop xs.length k 0 (by omega) (by omega) (by omega)
 simpa [markedS,laws_markStepS.f] using h
theorem heldStepS_ev (n:Nat) (a:Int) (h0:0≤a) (ha:a+2*n≤4611686018427387904):Ev (fun k=>laws_heldStepS.f k (markedS n a) a) (a+2*n):=by
 have loop:∀ (d k i:Nat),i≤n→n - i=d→d < k→laws_heldStepS.l0 k (markedS n a) (a+2*i) i=some (a+2*n):=by
  intro d
  induction d with
  | zero=>
   intro k i h1 hd hk
   obtain ⟨k,rfl⟩ : ∃ m,k=m+1:=⟨k - 1,by omega⟩
   obtain rfl:i=n:=by omega
   rw [laws_heldStepS.l0,markedS_length,if_neg (by omega)]
  | succ d ih=>
   intro k i h1 hd hk
   obtain ⟨k,rfl⟩ : ∃ m,k=m+1:=⟨k - 1,by omega⟩
   have hg:=markedS_get n a i (by omega)
   unfold rdS at hg
   rw [laws_heldStepS.l0,markedS_length,if_pos (by omega),if_pos (by omega),hg,if_pos rfl,w64 (show -9223372036854775808≤a+2*(i:Int)+1 by omega) (by omega),if_pos rfl,w64 (show -9223372036854775808≤a+2*(i:Int)+1+1 by omega) (by omega),w64 (show -9223372036854775808≤(i:Int)+1 by omega) (by omega)]
   have e:a+2*(i:Int)+1+1=a+2*((i+1:Nat):Int):=by omega
   rw [e]
   exact ih k (i+1) (by omega) (by omega) (by omega)
 refine ⟨n+1,fun k hk=>?_⟩
 have h:=loop n k 0 (by omega) (by omega) (by omega)
 simpa [laws_heldStepS.f] using h
theorem markPlan_ev (n:Int) (ss:List St) (os:List Int) (h1:ss.length≤2000000) (h2:os.length≤2000000):Ev (fun k=>laws_markPlan.f k n ss os 1) (1+2*ss.length+os.length,markedS ss.length 1,marked os.length (1+2*ss.length)):=by
 unfold laws_markPlan.f
 refine ev_bind (markStepS_ev ss 1 (by omega) (by omega)) ?_
 refine ev_bind (markIntS_ev os (1+2*ss.length) (by omega) (by omega)) ?_
 exact Ev.now _
theorem heldPlan_ev (n:Int) (a b:Nat) (h1:a≤1000000) (h2:b≤1000000):Ev (fun k=>laws_heldPlan.f k n (markedS a 1) (marked b (1+2*a)) 1) (1+2*(a:Int)+b):=by
 unfold laws_heldPlan.f
 refine ev_bind (heldStepS_ev a 1 (by omega) (by omega)) ?_
 simp only [if_neg (show ¬ (1:Int)+2*(a:Int) < 0 by omega)]
 refine ev_bind (heldIntS_ev b (1+2*a) (by omega) (by omega)) ?_
 simp only [if_neg (show ¬ (1:Int)+2*(a:Int)+(b:Int) < 0 by omega)]
 exact Ev.now _
theorem l1Same_ev (a b:List Int) (ha:a.length≤1000000):Ev (fun k=>spec_l1Same.f k a b) (decide (a=b)):=by
 unfold spec_l1Same.f
 by_cases hl:a.length=b.length
 ·simp only [if_pos (show (a.length:Int)=(b.length:Int) by omega)]
  have loop:∀ (d i:Nat),i+d=a.length→a.take i=b.take i→Ev (fun k=>spec_l1Same.l0 k a b a.length i) (decide (a=b)):=by
   intro d
   induction d with
   | zero=>
    intro i hi ht
    refine ev_shift ?_
    simp only [spec_l1Same.l0,if_neg (show ¬ (i:Int) < (a.length:Int) by omega)]
    rw [List.take_of_length_le (by omega),List.take_of_length_le (by omega)] at ht
    rw [decide_eq_true ht]
    exact Ev.now _
   | succ d ih=>
    intro i hi ht
    have ea:rd a (i:Int)=a[i]'(by omega):=by rw [rd_nat];simp [List.getD,show i < a.length by omega]
    have eb:rd b (i:Int)=b[i]'(by omega):=by rw [rd_nat];simp [List.getD,show i < b.length by omega]
    refine ev_shift ?_
    simp only [spec_l1Same.l0,if_pos (show (i:Int) < (a.length:Int) by omega),if_pos (show (0:Int)≤(i:Int) by omega),if_pos (show (i:Int) < (b.length:Int) by omega),w64 (show -9223372036854775808≤(i:Int)+1 by omega) (by omega)]
    by_cases c:rd a (i:Int)=rd b (i:Int)
    ·simp only [if_pos c]
     refine ih (i+1) (by omega) ?_
     rw [List.take_succ_eq_append_getElem (by omega),List.take_succ_eq_append_getElem (by omega),ht,← ea,← eb,c]
    ·simp only [if_neg c]
     rw [decide_eq_false (fun e=>c (by rw [e]))]
     exact Ev.now _
  exact loop a.length 0 (by omega) (by simp)
 ·simp only [if_neg (show ¬ (a.length:Int)=(b.length:Int) by omega)]
  rw [decide_eq_false (fun e=>hl (by rw [e]))]
  exact Ev.now _
def isSame (rows:List (List Int)) (v:Nat) (j:Nat):Bool:=decide (rdRow rows (v:Int)=rdRow rows (j:Int))
theorem small_exps (m:Nat) (ss:List St) (h2:m≤6) (h3:ss.length≤40) (ho:InOrder m ss):impl_Plan_firstSame.small (exps m ss)=true:=by
 have hok:=exps_ok m ss ho
 unfold impl_Plan_firstSame.small
 rw [Bool.and_eq_true,decide_eq_true_eq,List.all_eq_true]
 exact ⟨by rw [hok.1];omega,fun r hr=>decide_eq_true (by have:=(hok.2 r hr).1;omega)⟩
theorem firsts_get (rows:List (List Int)) (v:Nat) (hv:v < rows.length):rd (impl_Plan_firstSame.firsts rows) (v:Int)=firstIx (isSame rows v) rows.length 0:=by
 rw [rd_nat]
 unfold impl_Plan_firstSame.firsts isSame
 simp [List.getD,hv]
theorem firsts_length (rows:List (List Int)):(impl_Plan_firstSame.firsts rows).length=rows.length:=by unfold impl_Plan_firstSame.firsts;simp
theorem firstIx_le (p:Nat→Bool) (v:Nat) (hp:p v=true):∀ (d i:Nat),i≤v→v < i+d→(i:Int)≤firstIx p d i∧firstIx p d i≤v
 | 0,i,h1,h2=>by omega
 | d+1,i,h1,h2=>by
  unfold firstIx
  by_cases c:p i=true
  ·rw [if_pos c];omega
  ·rw [if_neg c]
   have:i≠v:=fun e=>c (e ▸ hp)
   have:=firstIx_le p v hp d (i+1) (by omega) (by omega)
   omega
theorem firsts_le (rows:List (List Int)) (v:Nat) (hv:v < rows.length):0≤rd (impl_Plan_firstSame.firsts rows) (v:Int)∧rd (impl_Plan_firstSame.firsts rows) (v:Int)≤v:=by
 rw [firsts_get rows v hv]
 exact firstIx_le (isSame rows v) v (by unfold isSame;exact decide_eq_true rfl) rows.length 0 (by omega) (by omega)
theorem firstSame_ev (m:Nat) (ss:List St) (os:List Int) (h2:m≤6) (h3:ss.length≤40) (ho:InOrder m ss):Ev (fun k=>impl_Plan_firstSame.f k m ss os) (impl_Plan_firstSame.firsts (exps m ss)):=by
 unfold impl_Plan_firstSame.f
 refine ev_bind (exponents_ev m ss os h2 h3 ho) ?_
 simp only [small_exps m ss h2 h3 ho,if_true]
 exact Ev.now _
theorem firsts_succ (rows:List (List Int)) (i:Nat) (hi:i < rows.length):(impl_Plan_firstSame.firsts rows).take (i+1)=(impl_Plan_firstSame.firsts rows).take i++[firstIx (isSame rows i) rows.length 0]:=by
 have hl:=firsts_length rows
 rw [List.take_succ_eq_append_getElem (by omega)]
 have:=firsts_get rows i hi
 rw [rd_nat,show (impl_Plan_firstSame.firsts rows).getD i 0=(impl_Plan_firstSame.firsts rows)[i]'(by omega) by simp [List.getD,show i < (impl_Plan_firstSame.firsts rows).length by omega]] at this
 rw [this]
theorem plFirst_ev (m:Nat) (ss:List St) (os:List Int) (h2:m≤6) (h3:ss.length≤40) (ho:InOrder m ss):Ev (fun k=>spec_plFirst.f k m ss os) (impl_Plan_firstSame.firsts (exps m ss)):=by
 unfold spec_plFirst.f
 refine ev_bind (plExponents_ev m ss os h2 h3 ho) ?_
 have hok:=exps_ok m ss ho
 generalize exps m ss=rows at hok ⊢
 have hl:=hok.1
 have hf:=firsts_length rows
 have inner:∀ (v:Nat) (acc r:List Int),v < rows.length→acc.length≤1000→Ev (fun k=>spec_plFirst.l0 k rows (acc++[firstIx (isSame rows v) rows.length 0]) rows rows.length ((v:Int)+1)) r→∀ (d j:Nat),j+d=v→firstIx (isSame rows v) (rows.length - j) j=firstIx (isSame rows v) rows.length 0→Ev (fun k=>spec_plFirst.l1 k rows acc v (rd_L3 rows v) j rows rows.length v) r:=by
  intro v acc r hv ha hr d
  have hvok:=(hok.2 _ (rd_mem rows (v:Int) (by omega) (by omega))).1
  induction d with
  | zero=>
   intro j hj he
   obtain rfl:j=v:=by omega
   refine ev_shift ?_
   simp only [spec_plFirst.l1,if_pos (show (0:Int)≤(j:Int) by omega),if_pos (show (j:Int) < (rows.length:Int) by omega)]
   refine ev_bind (l1Same_ev _ _ (by omega)) ?_
   simp only [decide_true,if_true,spec_l1Least.f,if_neg (show ¬ (j:Int) < (j:Int) by omega),Option.bind_some,if_pos (show acc.length < 17592186044416 by omega),w64 (show -9223372036854775808≤(j:Int)+1 by omega) (by omega)]
   have hs:isSame rows j j=true:=by unfold isSame;exact decide_eq_true rfl
   rw [show rows.length - j=(rows.length - j - 1)+1 by omega,firstIx,if_pos hs] at he
   rw [← he] at hr
   exact hr
  | succ d ih=>
   intro j hj he
   have hjok:=(hok.2 _ (rd_mem rows (j:Int) (by omega) (by omega))).1
   refine ev_shift ?_
   simp only [spec_plFirst.l1,if_pos (show (0:Int)≤(j:Int) by omega),if_pos (show (j:Int) < (rows.length:Int) by omega),w64 (show -9223372036854775808≤(j:Int)+1 by omega) (by omega)]
   refine ev_bind (l1Same_ev _ _ (by omega)) ?_
   rw [show rows.length - j=(rows.length - (j+1))+1 by omega,firstIx] at he
   by_cases c:rd_L3 rows (j:Int)=rd_L3 rows (v:Int)
   ·have hs:isSame rows v j=true:=by unfold isSame;exact decide_eq_true c.symm
    rw [if_pos hs] at he
    simp only [decide_eq_true c,if_true,spec_l1Least.f,if_pos (show (j:Int) < (v:Int) by omega),Option.bind_some,if_pos (show acc.length < 17592186044416 by omega),w64 (show -9223372036854775808≤(v:Int)+1 by omega) (by omega)]
    rw [he]
    exact hr
   ·have hs : ¬ isSame rows v j=true:=by unfold isSame;rw [decide_eq_true_iff];exact fun e=>c e.symm
    rw [if_neg hs] at he
    simp only [decide_eq_false c,Bool.false_eq_true,if_false]
    exact ih (j+1) (by omega) he
 have loop:∀ (d i:Nat),i+d=rows.length→Ev (fun k=>spec_plFirst.l0 k rows ((impl_Plan_firstSame.firsts rows).take i) rows rows.length i) (impl_Plan_firstSame.firsts rows):=by
  intro d
  induction d with
  | zero=>
   intro i hd
   refine ev_shift ?_
   simp only [spec_plFirst.l0,if_neg (show ¬ (i:Int) < (rows.length:Int) by omega)]
   rw [List.take_of_length_le (by omega)]
   exact Ev.now _
  | succ d ih=>
   intro i hd
   refine ev_shift ?_
   simp only [spec_plFirst.l0,if_pos (show (i:Int) < (rows.length:Int) by omega),if_pos (show (0:Int)≤(i:Int) by omega)]
   refine inner i _ _ (by omega) (by rw [List.length_take];omega) ?_ i 0 (by omega) rfl
   rw [← firsts_succ rows i (by omega)]
   exact ih (i+1) (by omega)
 exact loop rows.length 0 (by omega)
def hasFrom (ys:List Int) (x:Int):Nat→Int→Bool
 | 0,_=>false
 | d+1,i=>if rd ys i=x then true else hasFrom ys x d (i+1)
def has (ys:List Int) (x:Int):Bool:=hasFrom ys x ys.length 0
theorem hasFrom_at (ys:List Int) (x:Int):∀ (d:Nat) (i:Int),hasFrom ys x d i=true→∃ j,i≤j∧j < i+d∧rd ys j=x
 | 0,_,h=>by cases h
 | d+1,i,h=>by
  unfold hasFrom at h
  split at h
  ·rename_i c;exact ⟨i,by omega,by omega,c⟩
  ·obtain ⟨j,h1,h2,h3⟩:=hasFrom_at ys x d (i+1) h
   exact ⟨j,by omega,by omega,h3⟩
theorem hasFrom_mk (ys:List Int) (x:Int):∀ (d:Nat) (i j:Int),i≤j→j < i+d→rd ys j=x→hasFrom ys x d i=true
 | 0,_,_,_,_,_=>by omega
 | d+1,i,j,h1,h2,h3=>by
  unfold hasFrom
  split
  ·rfl
  ·rename_i c
   by_cases e:i=j
   ·subst e;exact absurd h3 c
   ·exact hasFrom_mk ys x d (i+1) j (by omega) (by omega) h3
theorem has_iff (ys:List Int) (x:Int):has ys x=true↔∃ j:Int,0≤j∧j < ys.length∧rd ys j=x:=by
 constructor
 ·intro h
  obtain ⟨j,h1,h2,h3⟩:=hasFrom_at ys x ys.length 0 h
  exact ⟨j,h1,by omega,h3⟩
 ·rintro ⟨j,h1,h2,h3⟩
  exact hasFrom_mk ys x ys.length 0 j h1 (by omega) h3
theorem l1Has_ev (ys:List Int) (x:Int) (hl:ys.length≤100000000):Ev (fun f=>spec_l1Has.f f ys x) (has ys x):=by
 have loop:∀ (d:Nat) (i:Int),0≤i→i+d=ys.length→Ev (fun f=>spec_l1Has.l0 f x ys ys.length i) (hasFrom ys x d i):=by
  intro d
  induction d with
  | zero=>
   intro i h0 hd
   refine ev_shift ?_
   simp only [spec_l1Has.l0,if_neg (show ¬ i < (ys.length:Int) by omega),hasFrom]
   exact Ev.now _
  | succ d ih=>
   intro i h0 hd
   have hn:=ih (i+1) (by omega) (by omega)
   refine ev_shift ?_
   simp only [spec_l1Has.l0,if_pos (show i < (ys.length:Int) by omega),if_pos h0,w64 (show -9223372036854775808≤i+1 by omega) (by omega)]
   unfold hasFrom
   by_cases c:rd ys i=x
   ·rw [if_pos c];simp only [if_pos c];exact Ev.now _
   ·rw [if_neg c];simp only [if_neg c];exact hn
 exact loop ys.length 0 (by omega) (by omega)
theorem l1Own_eq (xs:List Int) (h:xs.length < 17592186044416):spec_l1Own.f xs=some xs:=by
 unfold spec_l1Own.f
 simp only [Option.bind_some,List.length_nil,Nat.zero_add,if_pos h,List.nil_append]
open Go.Proofs.YtdcdaoancmpbeaaB in
theorem down_cons (n:Nat):down (n+1) (n+1)=n :: down n n:=by
 unfold down
 rw [List.range_succ_eq_map,List.map_cons,List.map_map]
 have e:(fun j=>n+1 - 1 - j) ∘ Nat.succ=fun j=>n - 1 - j:=by
  funext j
  show n+1 - 1 - (j+1)=n - 1 - j
  omega
 rw [e]
 simp
def bitAt (U:List Bool) (v:Nat):Bool:=U.getD v false
theorem bit_set (U:List Bool) (i v:Nat) (h:i < U.length):bitAt (U.set i true) v=true↔v=i∨bitAt U v=true:=by
 unfold bitAt
 simp only [List.getD_eq_getElem?_getD,List.getElem?_set]
 by_cases e:i=v
 ·subst e;simp [h]
 ·rw [if_neg e];simp;intro h2;exact absurd h2.symm e
def backTo (m:Nat) (ss:List St):Nat→List Bool→List Bool
 | 0,U=>U
 | d+1,U=>backTo m ss d (impl_Plan_used.step m ss U d)
open Go.Proofs.YtdcdaoancmpbeaaB in
theorem down_back (m:Nat) (ss:List St):∀ (n:Nat) (U:List Bool),(down n n).foldl (impl_Plan_used.step m ss) U=backTo m ss n U
 | 0,_=>rfl
 | n+1,U=>by rw [down_cons,List.foldl_cons,down_back m ss n];rfl
def pick (U:List Bool) (m:Nat):Nat→Nat→List Int
 | 0,_=>[]
 | d+1,a=>if bitAt U (m+a)=true then (a:Int) :: pick U m d (a+1) else pick U m d (a+1)
theorem pick_same (U U' : List Bool) (m:Nat):∀ (d a:Nat),(∀ j,a≤j→j < a+d→bitAt U (m+j)=bitAt U' (m+j))→pick U m d a=pick U' m d a
 | 0,_,_=>rfl
 | d+1,a,h=>by
  rw [pick,pick,h a (by omega) (by omega),pick_same U U' m d (a+1) (fun j h1 h2=>h j (by omega) (by omega))]
theorem pick_length (U:List Bool) (m:Nat):∀ (d a:Nat),(pick U m d a).length≤d
 | 0,_=>Nat.le_refl _
 | d+1,a=>by
  have:=pick_length U m d (a+1)
  rw [pick]
  split
  ·rw [List.length_cons];omega
  ·omega
def spTo (m:Nat) (ss:List St):Nat→List Int→List Int→List Int
 | 0,_,out=>out
 | d+1,nd,out=>if has nd (m+d)=true then spTo m ss d (nd++[(rdS ss d).f0,(rdS ss d).f1]) ((d:Int) :: out) else spTo m ss d nd out
theorem has_mem (ys:List Int) (x:Int):has ys x=true↔x∈ys:=by
 rw [has_iff]
 constructor
 ·rintro ⟨j,h1,h2,rfl⟩
  obtain ⟨i,rfl⟩:=Int.eq_ofNat_of_zero_le h1
  rw [rd_nat,show ys.getD i 0=ys[i]'(by omega) by simp [List.getD,show i < ys.length by omega]]
  exact List.getElem_mem _
 ·intro h
  obtain ⟨i,hi,rfl⟩:=List.mem_iff_getElem.1 h
  exact ⟨i,by omega,by omega,by rw [rd_nat];simp [List.getD,hi]⟩
theorem step_length (m:Nat) (ss:List St) (U:List Bool) (x:Nat):(impl_Plan_used.step m ss U x).length=U.length:=impl_Plan_used.step_length m ss U x
theorem sp_im (m:Nat) (ss:List St) (ho:InOrder m ss):∀ (d:Nat) (U:List Bool) (nd out:List Int),d≤ss.length→U.length=m+ss.length→(∀ v:Nat,v < m+ss.length→(bitAt U v=true↔(v:Int)∈nd))→out=pick U m (ss.length - d) d →
  spTo m ss d nd out=pick (backTo m ss d U) m ss.length 0:=by
 intro d
 induction d with
 | zero=>intro U nd out _ _ _ h;rw [spTo,backTo,h];rfl
 | succ d ih=>
  intro U nd out hd hl hv hout
  obtain ⟨o1,o2,o3⟩:=ho d (by omega)
  obtain ⟨a,ha⟩:=Int.eq_ofNat_of_zero_le o1
  obtain ⟨b,hb⟩:=Int.eq_ofNat_of_zero_le (show 0≤(rdS ss d).f1 by show 0≤(rd_T73 ss d).f1;omega)
  have ha' : (rdS ss d).f0=(a:Int):=ha
  have hal:a < m+d:=by omega
  have hbl:b < m+d:=by have:(rd_T73 ss d).f1=(b:Int):=hb;omega
  have hn:ss.length - d=(ss.length - (d+1))+1:=by omega
  have hm:=hv (m+d) (by omega)
  have hh:has nd ((m:Int)+d)=true↔bitAt U (m+d)=true:=by rw [has_mem,hm];rw [show ((m+d:Nat):Int)=(m:Int)+d by omega]
  have hs:impl_Plan_used.step m ss U d=if bitAt U (m+d)=true then (U.set a true).set b true else U:=by
   unfold impl_Plan_used.step
   have e1:rdOf false U ((m:Int)+d)=bitAt U (m+d):=by unfold rdOf bitAt;rw [show ((m:Int)+(d:Int)).toNat=m+d by omega]
   rw [e1,show rd_T73 ss (d:Int)=rdS ss d from rfl,ha',hb]
   rfl
  rw [spTo,backTo,hs]
  by_cases c:bitAt U (m+d)=true
  ·rw [if_pos (hh.2 c),if_pos c]
   have hset:∀ v,bitAt ((U.set a true).set b true) v=true↔v=b∨v=a∨bitAt U v=true:=fun v=>by rw [bit_set _ _ _ (by rw [List.length_set];omega),bit_set _ _ _ (by omega)]
   refine ih _ _ _ (by omega) (by simp;omega) (fun v hvl=>?_) ?_
   ·rw [hset,hv v hvl,List.mem_append,ha',hb]
    simp only [List.mem_cons,List.mem_nil_iff,or_false]
    constructor
    ·rintro (rfl|rfl|h)
     ·exact .inr (.inr rfl)
     ·exact .inr (.inl rfl)
     ·exact .inl h
    ·rintro (h|h|h)
     ·exact .inr (.inr h)
     ·exact .inr (.inl (by omega))
     ·exact .inl (by omega)
   ·rw [hn,pick,if_pos ((hset (m+d)).2 (.inr (.inr c))),hout]
    refine congrArg _ (pick_same _ _ m _ _ (fun j h1 h2=>?_))
    have:=hset (m+j)
    rw [Bool.eq_iff_iff,this]
    constructor
    ·intro h;exact .inr (.inr h)
    ·rintro (h|h|h)
     ·omega
     ·omega
     ·exact h
  ·rw [if_neg (fun h=>c (hh.1 h)),if_neg c]
   refine ih _ _ _ (by omega) hl hv ?_
   rw [hn,pick,if_neg c,hout]
theorem marks_bits (os:List Int):∀ (U:List Bool) (v:Nat),(∀ x∈os,0≤x∧x < (U.length:Int))→(bitAt (impl_Plan_used.marks os U) v=true↔(v:Int)∈os∨bitAt U v=true):=by
 induction os with
 | nil=>intro U v _;show bitAt U v=true↔_;simp
 | cons x os ih=>
  intro U v h
  have hx:=h x (List.mem_cons_self ..)
  have:=ih (U.set x.toNat true) v (fun y hy=>by rw [List.length_set];exact h y (List.mem_cons_of_mem _ hy))
  show bitAt (impl_Plan_used.marks os (U.set x.toNat true)) v=true↔_
  rw [this,bit_set _ _ _ (by omega),List.mem_cons]
  constructor
  ·rintro (h|h|h)
   ·exact .inl (.inr h)
   ·exact .inl (.inl (by omega))
   ·exact .inr h
  ·rintro ((h|h)|h)
   ·exact .inr (.inl (by omega))
   ·exact .inl h
   ·exact .inr (.inr h)
def marksOf (m:Nat) (ss:List St) (os:List Int):List Bool:=backTo m ss ss.length (impl_Plan_used.marks os (List.replicate (m+ss.length) false))
def usedOf (m:Nat) (ss:List St) (os:List Int):List Int:=pick (marksOf m ss os) m ss.length 0
theorem usedOf_length (m:Nat) (ss:List St) (os:List Int):(usedOf m ss os).length≤ss.length:=pick_length _ _ _ _
theorem backTo_length (m:Nat) (ss:List St):∀ (d:Nat) (U:List Bool),(backTo m ss d U).length=U.length
 | 0,_=>rfl
 | d+1,U=>by rw [backTo,backTo_length m ss d,step_length]
theorem marksOf_length (m:Nat) (ss:List St) (os:List Int):(marksOf m ss os).length=m+ss.length:=by unfold marksOf;rw [backTo_length,impl_Plan_used.marks_length,List.length_replicate]
theorem outs_mem {m:Nat} {ss:List St} {os:List Int} (h:∀ j:Nat,j < os.length→0≤rd os j∧rd os j≤(m:Int)+ss.length - 1):∀ x∈os,0≤x∧x < (m:Int)+ss.length:=fun x hx=>by
 obtain ⟨i,hi,rfl⟩:=List.mem_iff_getElem.1 hx
 have:=h i hi
 rw [rd_nat,show os.getD i 0=os[i] by simp [List.getD,hi]] at this
 omega
theorem used_eq (m:Nat) (ss:List St) (os:List Int) (h1:1≤m) (h2:m≤6) (h3:ss.length≤40) (h4:os.length≤6) (ho:InOrder m ss) (hos:∀ j:Nat,j < os.length→0≤rd os j∧rd os j≤(m:Int)+ss.length - 1):impl_Plan_used.f m ss os=some (marksOf m ss os):=by
 have hok:impl_Plan_used.ok m ss os=true:=by
  unfold impl_Plan_used.ok
  simp only [Bool.and_eq_true,decide_eq_true_eq,List.all_eq_true]
  refine ⟨⟨⟨⟨⟨by omega,by omega⟩,by omega⟩,by omega⟩,outs_mem hos⟩,fun s hs=>?_⟩
  obtain ⟨i,hi,rfl⟩:=List.mem_iff_getElem.1 hs
  obtain ⟨a,b,c⟩:=ho i hi
  have e:rd_T73 ss (i:Int)=ss[i]:=by unfold rd_T73;rw [Int.toNat_natCast];simp [List.getD,hi]
  rw [e] at a b c
  exact ⟨⟨⟨a,by omega⟩,by omega⟩,by omega⟩
 unfold impl_Plan_used.f marksOf
 rw [if_pos hok,down_back,show ((m:Int)+(ss.length:Int)).toNat=m+ss.length by omega]
theorem put_front (out:List Int) (x:Int) (hl:out.length≤1000) (h:∀ y∈out,x < y):Ev (fun k=>spec_l1Put.f k out x) (x :: out):=by
 unfold spec_l1Put.f
 refine ev_shift ?_
 cases out with
 | nil=>exact Ev.now _
 | cons y t=>
  have hy:=h y (List.mem_cons_self ..)
  have r0:rd (y :: t) 0=y:=rfl
  have hlt:(y :: t).length≤1000:=hl
  simp only [spec_l1Put.l0,if_pos (show (0:Int) < ((y :: t).length:Int) by rw [List.length_cons];omega),if_pos (show (0:Int)≤0 by omega),r0,if_neg (show ¬ y < x by omega),if_neg (show ¬ y=x by omega),Option.bind_some,if_pos (show (0:Int)≤((y :: t).length:Int) by omega),Int.toNat_zero,List.take_zero,List.drop_zero,List.length_nil,List.append_nil,List.nil_append,List.length_singleton]
  rw [if_pos (by omega),if_pos (by omega),if_pos (by omega)]
  exact Ev.now _
theorem plUsed_ev (m:Nat) (ss:List St) (os:List Int) (h1:1≤m) (h2:m≤6) (h3:ss.length≤40) (h4:os.length≤6) (ho:InOrder m ss) (hos:∀ j:Nat,j < os.length→0≤rd os j∧rd os j≤(m:Int)+ss.length - 1):Ev (fun k=>spec_plUsed.f k m ss os) (usedOf m ss os):=by
 have loop:∀ (d:Nat) (nd out:List Int),d≤ss.length→nd.length+2*d≤200→out.length+d≤200→(∀ y∈out,(d:Int)≤y)→Ev (fun k=>spec_plUsed.l0 k nd out ((d:Int) - 1) m ss os) (spTo m ss d nd out):=by
  intro d
  induction d with
  | zero=>
   intro nd out _ _ _ _
   refine ev_shift ?_
   simp only [spec_plUsed.l0,if_neg (show ¬ ((0:Nat):Int) - 1 ≥ 0 by omega),spTo]
   exact Ev.now _
  | succ d ih=>
   intro nd out hd hn hol hout
   refine ev_shift ?_
   have e1:((d+1:Nat):Int) - 1=(d:Int):=by omega
   simp only [spec_plUsed.l0,e1,if_pos (show (d:Int) ≥ 0 by omega),w64 (show -9223372036854775808≤(m:Int)+(d:Int) by omega) (by omega),w64 (show -9223372036854775808≤(d:Int) - 1 by omega) (by omega)]
   refine ev_bind (l1Has_ev nd _ (by omega)) ?_
   rw [spTo]
   by_cases c:has nd ((m:Int)+d)=true
   ·have el:([(rd_T73 ss (d:Int)).f0,(rd_T73 ss (d:Int)).f1]:List Int).length=2:=rfl
    simp only [c,if_true,if_pos (show (d:Int) < (ss.length:Int) by omega),Option.bind_some,el,if_pos (show nd.length+2 < 17592186044416 by omega)]
    refine ev_bind (put_front out d (by omega) (fun y hy=>by have:=hout y hy;omega)) ?_
    exact ih _ _ (by omega) (by simp;omega) (by simp;omega) (fun y hy=>by
     rcases List.mem_cons.1 hy with rfl|hy
     ·omega
     ·have:=hout y hy;omega)
   ·simp only [if_neg c]
    exact ih _ _ (by omega) (by omega) (by omega) (fun y hy=>by have:=hout y hy;omega)
 unfold spec_plUsed.f
 simp only [l1Own_eq os (by omega),Option.bind_some,w64 (show -9223372036854775808≤(ss.length:Int) - 1 by omega) (by omega)]
 have h:=loop ss.length os [] (Nat.le_refl _) (by omega) (by simp;omega) (fun y hy=>by cases hy)
 have hm:=outs_mem hos
 rw [sp_im m ss ho ss.length (impl_Plan_used.marks os (List.replicate (m+ss.length) false)) os [] (Nat.le_refl _) (by rw [impl_Plan_used.marks_length,List.length_replicate]) (fun v _=>by
  rw [marks_bits os _ v (fun x hx=>by rw [List.length_replicate];have:=hm x hx;omega)]
  have:bitAt (List.replicate (m+ss.length) false) v=false:=by
   unfold bitAt
   rw [List.getD_eq_getElem?_getD,List.getElem?_replicate]
   split <;> rfl
  rw [this];simp) (by rw [Nat.sub_self];rfl)] at h
 exact h
theorem pick_add (U:List Bool) (m:Nat):∀ (a b s:Nat),pick U m (a+b) s=pick U m a s++pick U m b (s+a)
 | 0,b,s=>by rw [Nat.zero_add];rfl
 | a+1,b,s=>by
  rw [show a+1+b=(a+b)+1 by omega,pick,pick,pick_add U m a b (s+1),show s+1+a=s+(a+1) by omega]
  split
  ·rfl
  ·rfl
theorem pick_succ (U:List Bool) (m i:Nat):pick U m (i+1) 0=pick U m i 0++(if bitAt U (m+i)=true then [(i:Int)] else []):=by
 rw [pick_add,Nat.zero_add,pick]
 rfl
theorem pick_mem (U:List Bool) (m:Nat):∀ (d a:Nat),∀ x∈pick U m d a,∃ i:Nat,x=i∧a≤i∧i < a+d∧bitAt U (m+i)=true
 | 0,_,x,h=>by cases h
 | d+1,a,x,h=>by
  rw [pick] at h
  split at h
  ·rename_i c
   rcases List.mem_cons.1 h with rfl|h
   ·exact ⟨a,rfl,by omega,by omega,c⟩
   ·obtain ⟨i,e,h1,h2,h3⟩:=pick_mem U m d (a+1) x h
    exact ⟨i,e,by omega,by omega,h3⟩
  ·obtain ⟨i,e,h1,h2,h3⟩:=pick_mem U m d (a+1) x h
   exact ⟨i,e,by omega,by omega,h3⟩
def cnt (U:List Bool) (m i:Nat):Nat:=(pick U m i 0).length
theorem cnt_le (U:List Bool) (m i:Nat):cnt U m i≤i:=pick_length U m i 0
def num (U:List Bool) (m:Nat) (v:Int):Int:=if v < m then v else (m:Int)+cnt U m (v - m).toNat
def stepAt (U:List Bool) (m:Nat) (ss:List St) (i:Int):St:=⟨mn (num U m (rdS ss i).f0) (num U m (rdS ss i).f1),mx (num U m (rdS ss i).f0) (num U m (rdS ss i).f1)⟩
def tSteps (m:Nat) (ss:List St) (os:List Int):List St:=(usedOf m ss os).map (stepAt (marksOf m ss os) m ss)
def tOuts (m:Nat) (ss:List St) (os:List Int):List Int:=os.map (num (marksOf m ss os) m)
def firstN (m:Nat):List Int:=(List.range m).map (fun j:Nat=>(j:Int))
theorem firstN_succ (m:Nat):firstN (m+1)=firstN m++[(m:Int)]:=by unfold firstN;simp [List.range_succ]
theorem firstN_length (m:Nat):(firstN m).length=m:=by unfold firstN;simp
theorem firsts_ev (m:Nat) (hm:m≤1000000):Ev (fun k=>impl_firsts.f k m) (firstN m):=by
 have loop:∀ (d i:Nat),i+d=m→Ev (fun k=>impl_firsts.l0 k (firstN i) m i) (firstN m):=by
  intro d
  induction d with
  | zero=>
   intro i hd
   obtain rfl:i=m:=by omega
   refine ev_shift ?_
   simp only [impl_firsts.l0,if_neg (show ¬ (i:Int) < (i:Int) by omega)]
   exact Ev.now _
  | succ d ih=>
   intro i hd
   refine ev_shift ?_
   simp only [impl_firsts.l0,if_pos (show (i:Int) < (m:Int) by omega),firstN_length,if_pos (show i < 17592186044416 by omega),w64 (show -9223372036854775808≤(i:Int)+1 by omega) (by omega)]
   rw [← firstN_succ]
   exact ih (i+1) (by omega)
 exact loop m 0 (by omega)
theorem renamed_ev (xs places:List Int) (hl:xs.length≤1000000) (h:∀ x∈xs,0≤x∧x < places.length):Ev (fun k=>impl_renamed.f k xs places) (xs.map (rd places)):=by
 have loop:∀ (d i:Nat),i+d=xs.length→Ev (fun k=>impl_renamed.l0 k places ((xs.take i).map (rd places)) xs xs.length i) (xs.map (rd places)):=by
  intro d
  induction d with
  | zero=>
   intro i hd
   refine ev_shift ?_
   simp only [impl_renamed.l0,if_neg (show ¬ (i:Int) < (xs.length:Int) by omega)]
   rw [List.take_of_length_le (by omega)]
   exact Ev.now _
  | succ d ih=>
   intro i hd
   have e:rd xs (i:Int)=xs[i]'(by omega):=by rw [rd_nat];simp [List.getD,show i < xs.length by omega]
   have hx:=h _ (List.getElem_mem (show i < xs.length by omega))
   rw [← e] at hx
   refine ev_shift ?_
   simp only [impl_renamed.l0,if_pos (show (i:Int) < (xs.length:Int) by omega),if_pos (show (0:Int)≤(i:Int) by omega),if_pos hx.1,if_pos hx.2,if_pos (show ((xs.take i).map (rd places)).length < 17592186044416 by simp;omega),w64 (show -9223372036854775808≤(i:Int)+1 by omega) (by omega)]
   have:=ih (i+1) (by omega)
   rw [List.take_succ_eq_append_getElem (by omega),List.map_append,← e] at this
   exact this
 exact loop xs.length 0 (by omega)
def placesTo (U:List Bool) (m i:Nat):List Int:=firstN m++(List.range i).map (fun j:Nat=>(m:Int)+cnt U m j)
theorem placesTo_length (U:List Bool) (m i:Nat):(placesTo U m i).length=m+i:=by unfold placesTo firstN;simp
theorem placesTo_succ (U:List Bool) (m i:Nat):placesTo U m (i+1)=placesTo U m i++[(m:Int)+cnt U m i]:=by unfold placesTo;simp [List.range_succ]
theorem placesTo_rd (U:List Bool) (m i:Nat) (v:Int) (h0:0≤v) (h1:v < m+i):rd (placesTo U m i) v=num U m v:=by
 obtain ⟨n,rfl⟩:=Int.eq_ofNat_of_zero_le h0
 rw [rd_nat,List.getD_eq_getElem?_getD]
 unfold placesTo num
 by_cases c:n < m
 ·rw [List.getElem?_append_left (by rw [firstN_length];exact c),if_pos (by omega)]
  unfold firstN
  simp [c]
 ·rw [List.getElem?_append_right (by rw [firstN_length];omega),if_neg (by omega),firstN_length,show ((n:Int) - m).toNat=n - m by omega]
  simp [show n - m < i by omega]
theorem trimmed_ev (m:Nat) (ss:List St) (os:List Int) (h1:1≤m) (h2:m≤6) (h3:ss.length≤40) (h4:os.length≤6) (ho:InOrder m ss) (hos:∀ j:Nat,j < os.length→0≤rd os j∧rd os j≤(m:Int)+ss.length - 1):Ev (fun k=>impl_Plan_trimmed.f k m ss os) ((m:Int),tSteps m ss os,tOuts m ss os):=by
 unfold impl_Plan_trimmed.f
 simp only [used_eq m ss os h1 h2 h3 h4 ho hos,Option.bind_some]
 refine ev_bind (firsts_ev m (by omega)) ?_
 have hUl:=marksOf_length m ss os
 have hm:=outs_mem hos
 obtain ⟨U,hU⟩ : ∃ U,U=marksOf m ss os:=⟨_,rfl⟩
 unfold tSteps tOuts usedOf
 rw [← hU] at hUl ⊢
 have loop:∀ (d i:Nat),i+d=ss.length→Ev (fun k=>impl_Plan_trimmed.l0 k U (placesTo U m i) ss ss.length i m ss os m ((pick U m i 0).map (stepAt U m ss))) ((m:Int),(pick U m ss.length 0).map (stepAt U m ss),os.map (num U m)):=by
  intro d
  induction d with
  | zero=>
   intro i hd
   obtain rfl:i=ss.length:=by omega
   refine ev_shift ?_
   simp only [impl_Plan_trimmed.l0,if_neg (show ¬ (ss.length:Int) < (ss.length:Int) by omega)]
   refine ev_bind (renamed_ev os _ (by omega) (fun x hx=>by rw [placesTo_length];have:=hm x hx;omega)) ?_
   have e:os.map (rd (placesTo U m ss.length))=os.map (num U m):=List.map_congr_left fun x hx=>by
    have:=hm x hx
    exact placesTo_rd U m ss.length x this.1 (by omega)
   rw [e]
   exact Ev.now _
  | succ d ih=>
   intro i hd
   obtain ⟨k1,k2,k3⟩:=ho i (by omega)
   have w1:wrap64 ((m:Int)+(i:Int))=(m:Int)+i:=w64 (by omega) (by omega)
   have w2:wrap64 ((i:Int)+1)=(i:Int)+1:=w64 (by omega) (by omega)
   have p1:(i:Int) < (ss.length:Int):=by omega
   have p2:(0:Int)≤(i:Int):=by omega
   have p3:(0:Int)≤(m:Int)+(i:Int):=by omega
   have p4:(m:Int)+(i:Int) < (U.length:Int):=by omega
   have p5:(0:Int)≤(rd_T73 ss i).f1:=by omega
   have p6:(rd_T73 ss i).f0 < ((m+(i+1):Nat):Int):=by omega
   have p7:(rd_T73 ss i).f1 < ((m+(i+1):Nat):Int):=by omega
   have p8:(rd_T73 ss i).f0 < (m:Int)+((i+1:Nat):Int):=by omega
   have p9:(rd_T73 ss i).f1 < (m:Int)+((i+1:Nat):Int):=by omega
   have hb:rdOf false U ((m:Int)+(i:Int))=bitAt U (m+i):=by unfold rdOf bitAt;rw [show ((m:Int)+(i:Int)).toNat=m+i by omega]
   have hn:=ih (i+1) (by omega)
   have q1:(placesTo U m i).length < 17592186044416:=by rw [placesTo_length];omega
   have hw:wrap64 ((m:Int)+(cnt U m i:Int))=(m:Int)+cnt U m i:=by
    have:=cnt_le U m i
    generalize cnt U m i=c at this ⊢
    exact w64 (by omega) (by omega)
   have q2:(List.map (stepAt U m ss) (pick U m i 0)).length < 8796093022208:=by
    rw [List.length_map]
    have:=cnt_le U m i
    have e:(pick U m i 0).length=cnt U m i:=rfl
    rw [e]
    generalize cnt U m i=c at this ⊢
    omega
   rw [pick_succ] at hn
   refine ev_shift ?_
   simp only [impl_Plan_trimmed.l0,if_pos p1,if_pos p2]
   simp only [impl_Plan_many.f]
   simp only [if_pos q1,if_pos q2]
   simp -implicitDefEqProofs only [Option.bind_some,List.length_map]
   have el:((pick U m i 0).length:Int)=(cnt U m i:Int):=rfl
   simp -implicitDefEqProofs only [el,hw]
   simp -implicitDefEqProofs only [w1,w2,if_pos p3,if_pos p4,hb]
   rw [← placesTo_succ]
   by_cases c:bitAt U (m+i)=true
   ·rw [if_pos c,List.map_append] at hn
    have ra:=placesTo_rd U m (i+1) (rdS ss i).f0 k1 p8
    have rb:=placesTo_rd U m (i+1) (rdS ss i).f1 p5 p9
    simp -implicitDefEqProofs only [if_pos c,if_pos k1,placesTo_length,if_pos p6,if_pos p5,if_pos p7,impl_step.f,Option.bind_some]
    have es:(⟨mn (rd (placesTo U m (i+1)) (rd_T73 ss (i:Int)).f0) (rd (placesTo U m (i+1)) (rd_T73 ss (i:Int)).f1),mx (rd (placesTo U m (i+1)) (rd_T73 ss (i:Int)).f0) (rd (placesTo U m (i+1)) (rd_T73 ss (i:Int)).f1)⟩ : St)=stepAt U m ss (i:Int):=by
     unfold stepAt
     rw [show rd_T73 ss (i:Int)=rdS ss i from rfl,ra,rb]
    rw [es]
    exact hn
   ·rw [if_neg c,List.append_nil] at hn
    simp -implicitDefEqProofs only [if_neg c]
    exact hn
 have:=loop ss.length 0 (by omega)
 have e0:placesTo U m 0=firstN m:=by unfold placesTo;simp
 rw [e0] at this
 exact this
theorem step_bits (m:Nat) (ss:List St) (ho:InOrder m ss) (U:List Bool) (hl:U.length=m+ss.length) (d:Nat) (hd:d < ss.length) (v:Nat):bitAt (impl_Plan_used.step m ss U d) v=true↔(bitAt U (m+d)=true∧((v:Int)=(rdS ss d).f0∨(v:Int)=(rdS ss d).f1))∨bitAt U v=true:=by
 obtain ⟨o1,o2,o3⟩:=ho d hd
 have q1:0≤(rdS ss d).f0:=o1
 have q2:(rdS ss d).f0≤(rdS ss d).f1:=o2
 have q3:(rdS ss d).f1 < (m:Int)+d:=o3
 have e1:rdOf false U ((m:Int)+(d:Int))=bitAt U (m+d):=by unfold rdOf bitAt;rw [show ((m:Int)+(d:Int)).toNat=m+d by omega]
 unfold impl_Plan_used.step
 rw [e1,show rd_T73 ss (d:Int)=rdS ss d from rfl]
 by_cases c:bitAt U (m+d)=true
 ·rw [if_pos c,bit_set _ _ _ (by rw [List.length_set];omega),bit_set _ _ _ (by omega)]
  constructor
  ·rintro (h|h|h)
   ·exact .inl ⟨c,.inr (by omega)⟩
   ·exact .inl ⟨c,.inl (by omega)⟩
   ·exact .inr h
  ·rintro (⟨_,h|h⟩|h)
   ·exact .inr (.inl (by omega))
   ·exact .inl (by omega)
   ·exact .inr (.inr h)
 ·rw [if_neg c]
  constructor
  ·exact .inr
  ·rintro (⟨h,_⟩|h)
   ·exact absurd h c
   ·exact h
theorem back_mono (m:Nat) (ss:List St) (ho:InOrder m ss):∀ (d:Nat) (U:List Bool),d≤ss.length→U.length=m+ss.length→∀ v,bitAt U v=true→bitAt (backTo m ss d U) v=true
 | 0,_,_,_,_,h=>h
 | d+1,U,hd,hl,v,h=>back_mono m ss ho d _ (by omega) (by rw [step_length];exact hl) v ((step_bits m ss ho U hl d (by omega) v).2 (.inr h))
theorem back_hi (m:Nat) (ss:List St) (ho:InOrder m ss):∀ (d:Nat) (U:List Bool),d≤ss.length→U.length=m+ss.length→∀ v,m+d≤v→(bitAt (backTo m ss d U) v=true↔bitAt U v=true)
 | 0,_,_,_,_,_=>Iff.rfl
 | d+1,U,hd,hl,v,h=>by
  rw [backTo,back_hi m ss ho d _ (by omega) (by rw [step_length];exact hl) v (by omega),step_bits m ss ho U hl d (by omega) v]
  obtain ⟨o1,o2,o3⟩:=ho d (by omega)
  have q2:(rdS ss d).f0≤(rdS ss d).f1:=o2
  have q3:(rdS ss d).f1 < (m:Int)+d:=o3
  constructor
  ·rintro (⟨_,h|h⟩|h)
   ·omega
   ·omega
   ·exact h
  ·exact .inr
theorem back_closed (m:Nat) (ss:List St) (ho:InOrder m ss):∀ (d:Nat) (U:List Bool),d≤ss.length→U.length=m+ss.length→∀ i:Nat,i < d→bitAt (backTo m ss d U) (m+i)=true→bitAt (backTo m ss d U) (rdS ss i).f0.toNat=true∧bitAt (backTo m ss d U) (rdS ss i).f1.toNat=true
 | 0,_,_,_,i,h,_=>absurd h (Nat.not_lt_zero _)
 | d+1,U,hd,hl,i,hi,h=>by
  have hl2:(impl_Plan_used.step m ss U d).length=m+ss.length:=by rw [step_length];exact hl
  by_cases e:i=d
  ·subst e
   obtain ⟨o1,o2,o3⟩:=ho i (by omega)
   have q1:0≤(rdS ss i).f0:=o1
   have q2:(rdS ss i).f0≤(rdS ss i).f1:=o2
   have q3:(rdS ss i).f1 < (m:Int)+i:=o3
   rw [backTo,back_hi m ss ho i _ (by omega) hl2 (m+i) (by omega)] at h
   have hU:bitAt U (m+i)=true:=by
    rcases (step_bits m ss ho U hl i (by omega) (m+i)).1 h with ⟨h,_⟩|h <;> exact h
   exact ⟨back_mono m ss ho i _ (by omega) hl2 _ ((step_bits m ss ho U hl i (by omega) _).2 (.inl ⟨hU,.inl (by omega)⟩)),back_mono m ss ho i _ (by omega) hl2 _ ((step_bits m ss ho U hl i (by omega) _).2 (.inl ⟨hU,.inr (by omega)⟩))⟩
  ·exact back_closed m ss ho d _ (by omega) hl2 i (by omega) h
def placeFrom (xs:List Int) (x:Int):Nat→Nat→Int
 | 0,_=>-1
 | d+1,i=>if rd xs (i:Int)=x then (i:Int) else placeFrom xs x d (i+1)
theorem plPlace_ev (xs:List Int) (x:Int) (hl:xs.length≤1000000):Ev (fun k=>spec_plPlace.f k xs x) (placeFrom xs x xs.length 0):=by
 have loop:∀ (d i:Nat),i+d=xs.length→Ev (fun k=>spec_plPlace.l0 k x xs xs.length i) (placeFrom xs x d i):=by
  intro d
  induction d with
  | zero=>
   intro i hd
   refine ev_shift ?_
   simp only [spec_plPlace.l0,if_neg (show ¬ (i:Int) < (xs.length:Int) by omega),placeFrom]
   exact Ev.now _
  | succ d ih=>
   intro i hd
   refine ev_shift ?_
   simp only [spec_plPlace.l0,if_pos (show (i:Int) < (xs.length:Int) by omega),if_pos (show (0:Int)≤(i:Int) by omega),w64 (show -9223372036854775808≤(i:Int)+1 by omega) (by omega),placeFrom]
   by_cases c:rd xs (i:Int)=x
   ·simp only [if_pos c];exact Ev.now _
   ·simp only [if_neg c];exact ih (i+1) (by omega)
 exact loop xs.length 0 (by omega)
theorem place_at (xs:List Int) (x:Int) (c:Nat) (hc:c < xs.length) (hx:rd xs (c:Int)=x) (hn:∀ j:Nat,j < c→rd xs (j:Int)≠x):∀ (d i:Nat),i+d=xs.length→i≤c→placeFrom xs x d i=c
 | 0,i,h1,h2=>by omega
 | d+1,i,h1,h2=>by
  rw [placeFrom]
  by_cases e:i=c
  ·subst e;rw [if_pos hx]
  ·rw [if_neg (hn i (by omega))];exact place_at xs x c hc hx hn d (i+1) (by omega) (by omega)
theorem place_pick (U:List Bool) (m n i:Nat) (hi:i < n) (hb:bitAt U (m+i)=true):placeFrom (pick U m n 0) (i:Int) (pick U m n 0).length 0=cnt U m i:=by
 have e:pick U m n 0=pick U m i 0++((i:Int) :: pick U m (n - i - 1) (i+1)):=by
  have:=pick_add U m i (n - i) 0
  rw [show i+(n - i)=n by omega,Nat.zero_add,show n - i=(n - i - 1)+1 by omega,pick,if_pos hb] at this
  exact this
 have hlen:cnt U m i < (pick U m n 0).length:=by rw [e,List.length_append,List.length_cons];show (pick U m i 0).length < _;omega
 refine place_at _ _ (cnt U m i) hlen ?_ (fun j hj=>?_) _ 0 (by omega) (by omega)
 ·rw [rd_nat,e,List.getD_eq_getElem?_getD,List.getElem?_append_right (show (pick U m i 0).length≤cnt U m i from Nat.le_refl _),show cnt U m i - (pick U m i 0).length=0 from Nat.sub_self _]
  rfl
 ·have hj' : j < (pick U m i 0).length:=hj
  rw [rd_nat,e,List.getD_eq_getElem?_getD,List.getElem?_append_left hj',List.getElem?_eq_getElem hj']
  obtain ⟨q,e1,_,h2,_⟩:=pick_mem U m i 0 _ (List.getElem_mem hj')
  show (pick U m i 0)[j]≠i
  rw [e1]
  omega
theorem plNumber_ev (m:Nat) (ss:List St) (os:List Int) (U:List Bool) (n:Nat) (hn:n≤40) (hm:m≤6) (v:Int) (h0:0≤v) (h1:v < (m:Int)+n) (hb:v < m∨bitAt U v.toNat=true):Ev (fun k=>spec_plNumber.f k m ss os (pick U m n 0) v) (num U m v):=by
 unfold spec_plNumber.f num
 by_cases c:v < (m:Int)
 ·simp only [if_pos c];exact Ev.now _
 ·simp only [if_neg c]
  have hb' : bitAt U v.toNat=true:=hb.resolve_left c
  have hl:=pick_length U m n 0
  have hc:=cnt_le U m (v - m).toNat
  have hp:=plPlace_ev (pick U m n 0) (v - m) (by omega)
  have e:placeFrom (pick U m n 0) (v - m) (pick U m n 0).length 0=cnt U m (v - m).toNat:=by
   have:=place_pick U m n (v - m).toNat (by omega) (by rw [show m+(v - m).toNat=v.toNat by omega];exact hb')
   rw [show (((v - m).toNat:Nat):Int)=v - m by omega] at this
   exact this
  rw [e] at hp
  simp only [w64 (show -9223372036854775808≤v - (m:Int) by omega) (by omega)]
  refine ev_bind hp ?_
  simp only [w64 (show -9223372036854775808≤(m:Int)+(cnt U m (v - m).toNat:Int) by omega) (by omega)]
  exact Ev.now _
theorem least_mn (a b:Int):spec_l1Least.f a b=some (mn a b):=by
 unfold spec_l1Least.f mn
 split <;> split <;> first|rfl|exact congrArg some (by omega)
theorem most_mx (a b:Int):spec_l1Most.f a b=some (mx a b):=by
 unfold spec_l1Most.f mx
 split <;> split <;> first|rfl|exact congrArg some (by omega)
theorem plKeep_ev (m:Nat) (ss:List St) (os:List Int) (h1:1≤m) (h2:m≤6) (h3:ss.length≤40) (h4:os.length≤6) (ho:InOrder m ss) (hos:∀ j:Nat,j < os.length→0≤rd os j∧rd os j≤(m:Int)+ss.length - 1):Ev (fun k=>spec_plKeep.f k m ss os (usedOf m ss os)) ((m:Int),tSteps m ss os,tOuts m ss os):=by
 have hUl:=marksOf_length m ss os
 have hm:=outs_mem hos
 have hl0:(impl_Plan_used.marks os (List.replicate (m+ss.length) false)).length=m+ss.length:=by rw [impl_Plan_used.marks_length,List.length_replicate]
 have hcl:∀ i:Nat,i < ss.length→bitAt (marksOf m ss os) (m+i)=true→bitAt (marksOf m ss os) (rdS ss i).f0.toNat=true∧bitAt (marksOf m ss os) (rdS ss i).f1.toNat=true:=fun i hi h=>back_closed m ss ho ss.length _ (Nat.le_refl _) hl0 i hi h
 have hob:∀ x∈os,bitAt (marksOf m ss os) x.toNat=true:=fun x hx=>by
  have hx':=hm x hx
  refine back_mono m ss ho ss.length _ (Nat.le_refl _) hl0 _ ((marks_bits os _ _ (fun y hy=>by rw [List.length_replicate];have:=hm y hy;omega)).2 (.inl ?_))
  rw [show ((x.toNat:Nat):Int)=x by omega]
  exact hx
 unfold tSteps tOuts usedOf spec_plKeep.f
 generalize marksOf m ss os=U at *
 have hpl:=pick_length U m ss.length 0
 have outs:∀ (d i:Nat) (st:List St),i+d=os.length→Ev (fun k=>spec_plKeep.l1 k (pick U m ss.length 0) os os.length i m ss os m st ((os.take i).map (num U m))) ((m:Int),st,os.map (num U m)):=by
  intro d
  induction d with
  | zero=>
   intro i st hd
   refine ev_shift ?_
   simp only [spec_plKeep.l1,if_neg (show ¬ (i:Int) < (os.length:Int) by omega)]
   rw [List.take_of_length_le (by omega)]
   exact Ev.now _
  | succ d ih=>
   intro i st hd
   have e:rd os (i:Int)=os[i]'(by omega):=by rw [rd_nat];simp [List.getD,show i < os.length by omega]
   have hx:=hm _ (List.getElem_mem (show i < os.length by omega))
   have hxb:=hob _ (List.getElem_mem (show i < os.length by omega))
   rw [← e] at hx hxb
   refine ev_shift ?_
   simp only [spec_plKeep.l1,if_pos (show (i:Int) < (os.length:Int) by omega),if_pos (show (0:Int)≤(i:Int) by omega),if_pos (show ((os.take i).map (num U m)).length < 17592186044416 by simp;omega),w64 (show -9223372036854775808≤(i:Int)+1 by omega) (by omega)]
   refine ev_bind (plNumber_ev m ss os U ss.length h3 h2 _ hx.1 (by omega) (.inr hxb)) ?_
   have:=ih (i+1) st (by omega)
   rw [List.take_succ_eq_append_getElem (by omega),List.map_append,← e] at this
   exact this
 have loop:∀ (d j:Nat),j+d=(pick U m ss.length 0).length→Ev (fun k=>spec_plKeep.l0 k (pick U m ss.length 0) (pick U m ss.length 0) (pick U m ss.length 0).length j m ss os m (((pick U m ss.length 0).take j).map (stepAt U m ss))) ((m:Int),(pick U m ss.length 0).map (stepAt U m ss),os.map (num U m)):=by
  intro d
  induction d with
  | zero=>
   intro j hd
   refine ev_shift ?_
   simp only [spec_plKeep.l0,if_neg (show ¬ (j:Int) < ((pick U m ss.length 0).length:Int) by omega)]
   rw [List.take_of_length_le (by omega)]
   exact outs os.length 0 _ (by omega)
  | succ d ih=>
   intro j hd
   have e:rd (pick U m ss.length 0) (j:Int)=(pick U m ss.length 0)[j]'(by omega):=by rw [rd_nat];simp [List.getD,show j < (pick U m ss.length 0).length by omega]
   obtain ⟨i,ei,_,hi,hbi⟩:=pick_mem U m ss.length 0 _ (List.getElem_mem (show j < (pick U m ss.length 0).length by omega))
   have er:rd (pick U m ss.length 0) (j:Int)=(i:Int):=by rw [e];exact ei
   obtain ⟨o1,o2,o3⟩:=ho i (by omega)
   have q1:0≤(rdS ss i).f0:=o1
   have q2:(rdS ss i).f0≤(rdS ss i).f1:=o2
   have q3:(rdS ss i).f1 < (m:Int)+i:=o3
   obtain ⟨ba,bb⟩:=hcl i (by omega) hbi
   refine ev_shift ?_
   simp only [spec_plKeep.l0,if_pos (show (j:Int) < ((pick U m ss.length 0).length:Int) by omega),if_pos (show (0:Int)≤(j:Int) by omega),er,if_pos (show (0:Int)≤(i:Int) by omega),if_pos (show (i:Int) < (ss.length:Int) by omega),w64 (show -9223372036854775808≤(j:Int)+1 by omega) (by omega)]
   refine ev_bind (plNumber_ev m ss os U ss.length h3 h2 (rdS ss i).f0 q1 (by omega) (.inr ba)) ?_
   refine ev_bind (plNumber_ev m ss os U ss.length h3 h2 (rdS ss i).f1 (by omega) (by omega) (.inr bb)) ?_
   simp only [spec_plStep.f,least_mn,most_mx,Option.bind_some,if_pos (show (((pick U m ss.length 0).take j).map (stepAt U m ss)).length < 8796093022208 by rw [List.length_map,List.length_take];omega)]
   have:=ih (j+1) (by omega)
   rw [List.take_succ_eq_append_getElem (by omega),List.map_append,← e,er] at this
   exact this
 exact loop (pick U m ss.length 0).length 0 (by omega)
theorem tSteps_length (m:Nat) (ss:List St) (os:List Int):(tSteps m ss os).length≤ss.length:=by unfold tSteps;rw [List.length_map];exact usedOf_length m ss os
theorem tOuts_length (m:Nat) (ss:List St) (os:List Int):(tOuts m ss os).length=os.length:=by unfold tOuts;rw [List.length_map]
theorem tail_ (n:Int) (l1:List (S93)) (l2:List Int) (hl:l1.length+l2.length≤1048576) (m:Int) (ss:List St) (os:List Int) (b:Bool) (h1:ss.length≤1000000) (h2:os.length≤1000000) (hs:Ev (fun k=>spec_SharePlan.f k n (l1.map cv) l2) (m,ss,os,b)) (hi:Ev (fun k=>impl_SharePlan.f k n (l1.map cv) l2) (m,ss,os,b)):Ev (fun k=>laws_FnExactSharePlan.f k n l1 l2) true:=by
 have hp:=toPlan_ev n l1 l2 (by omega) (by omega)
 have hcl:(l1.map cv).length≤1048576:=by rw [List.length_map];omega
 have hep:=eqPlan_same n (l1.map cv) l2 hcl (by omega)
 have hmp:=markPlan_ev n (l1.map cv) l2 (by omega) (by omega)
 have heq:=eqPlan_same m ss os (by omega) (by omega)
 have hm:=markPlan_ev m ss os (by omega) (by omega)
 have hh:=heldPlan_ev m ss.length os.length h1 h2
 have e0:(b != b)=false:=by cases b <;> rfl
 have n0 : ¬ (1+2*(ss.length:Int)+(os.length:Int) < 0):=by omega
 have np : ¬ (1+2*((l1.map cv).length:Int)+(l2.length:Int) < 0):=by omega
 have j2:Ev (fun k=>laws_FnExactSharePlan.j2 k (1+2*ss.length+os.length) false m (markedS ss.length 1) (marked os.length (1+2*ss.length))) true:=by
  refine ev_shift ?_
  simp only [laws_FnExactSharePlan.j2,Bool.false_eq_true,if_false]
  refine ev_bind hh ?_
  simp only [if_neg n0,if_true]
  exact Ev.now _
 have j1:Ev (fun k=>laws_FnExactSharePlan.j1 k b false n l1 l2 m ss os m ss os) true:=by
  refine ev_shift ?_
  simp only [laws_FnExactSharePlan.j1,Bool.false_eq_true,if_false]
  refine ev_bind hm ?_
  refine ev_bind hh ?_
  simp only [if_neg n0,if_true]
  refine ev_bind hp ?_
  refine ev_bind hi ?_
  refine ev_bind heq ?_
  simp only [if_true,e0]
  exact j2
 have j0:Ev (fun k=>laws_FnExactSharePlan.j0 k b b false n l1 l2 m ss os n (l1.map cv) l2 m ss os) true:=by
  refine ev_shift ?_
  simp only [laws_FnExactSharePlan.j0,Bool.false_eq_true,if_false]
  refine ev_bind hp ?_
  refine ev_bind hep ?_
  simp only [if_true]
  refine ev_bind hmp ?_
  simp only [if_neg np]
  refine ev_bind heq ?_
  simp only [if_true,e0]
  exact j1
 unfold laws_FnExactSharePlan.f
 simp only [sz_ok n l1 l2 hl,Option.bind_some,if_neg (show ¬ (1048576 - (l1.length:Int) - (l2.length:Int)) < 0 by omega)]
 refine ev_bind hp ?_
 refine ev_bind hs ?_
 refine ev_bind hp ?_
 refine ev_bind hi ?_
 refine ev_bind heq ?_
 simp only [if_true,e0]
 exact j0
theorem over_ (n:Int) (l1:List (S93)) (l2:List Int) (m1:l1.length≤maxLen) (m2:l2.length≤maxLen) (hl : ¬ l1.length+l2.length≤1048576) : ∃ k,laws_FnExactSharePlan.f k n l1 l2=some true:=by
 refine ⟨0,?_⟩
 unfold laws_FnExactSharePlan.f
 rw [sz_big n l1 l2 m1 m2 hl,Option.bind_some,if_pos (by decide)]
def shStep (F:List Int) (s:St):St:=⟨mn (rd F s.f0) (rd F s.f1),mx (rd F s.f0) (rd F s.f1)⟩
theorem rdS_mem (ss:List St) (i:Nat) (h:i < ss.length):rdS ss i=ss[i]:=by
 show rd_T73 ss (i:Int)=_
 unfold rd_T73
 rw [Int.toNat_natCast]
 simp [List.getD,h]
theorem map_take {α β:Type} (f:α→β) (xs:List α) (i:Nat) (h:i < xs.length):(xs.take (i+1)).map f=(xs.take i).map f++[f xs[i]]:=by
 rw [List.take_succ_eq_append_getElem h,List.map_append];rfl
theorem first_in (m:Nat) (ss:List St) (ho:InOrder m ss) (v:Int) (h0:0≤v) (h1:v < (m:Int)+ss.length):v < (impl_Plan_firstSame.firsts (exps m ss)).length∧0≤rd (impl_Plan_firstSame.firsts (exps m ss)) v∧rd (impl_Plan_firstSame.firsts (exps m ss)) v≤v:=by
 obtain ⟨n,rfl⟩:=Int.eq_ofNat_of_zero_le h0
 have hl:=(exps_ok m ss ho).1
 obtain ⟨a,b⟩:=firsts_le (exps m ss) n (by omega)
 exact ⟨by rw [firsts_length,hl];omega,a,b⟩
theorem sh_order (m:Nat) (ss:List St) (ho:InOrder m ss):InOrder m (ss.map (shStep (impl_Plan_firstSame.firsts (exps m ss)))):=by
 intro i hi
 rw [List.length_map] at hi
 obtain ⟨a,b,c⟩:=ho i hi
 have e:rdS (ss.map (shStep (impl_Plan_firstSame.firsts (exps m ss)))) i=shStep (impl_Plan_firstSame.firsts (exps m ss)) (rdS ss i):=by
  rw [rdS_mem _ i (by rw [List.length_map];exact hi),rdS_mem ss i hi,List.getElem_map]
 obtain ⟨_,a1,a2⟩:=first_in m ss ho (rdS ss i).f0 a (by show (rd_T73 ss i).f0 < _;omega)
 obtain ⟨_,b1,b2⟩:=first_in m ss ho (rdS ss i).f1 (by show 0≤(rd_T73 ss i).f1;omega) (by show (rd_T73 ss i).f1 < _;omega)
 show 0≤(rdS _ (i:Int)).f0∧(rdS _ (i:Int)).f0≤(rdS _ (i:Int)).f1∧(rdS _ (i:Int)).f1 < _
 rw [e]
 have b' : (rdS ss i).f0≤(rdS ss i).f1:=b
 have c' : (rdS ss i).f1 < (m:Int)+i:=c
 unfold shStep
 show 0≤mn _ _∧mn _ _≤mx _ _∧mx _ _ < _
 unfold mn mx
 refine ⟨?_,?_,?_⟩ <;> split <;> (try split) <;> omega
theorem sh_outs (m:Nat) (ss:List St) (os:List Int) (ho:InOrder m ss) (hos:∀ j:Nat,j < os.length→0≤rd os j∧rd os j≤(m:Int)+ss.length - 1):∀ j:Nat,j < (os.map (rd (impl_Plan_firstSame.firsts (exps m ss)))).length→0≤rd (os.map (rd (impl_Plan_firstSame.firsts (exps m ss)))) j∧rd (os.map (rd (impl_Plan_firstSame.firsts (exps m ss)))) j≤(m:Int)+(ss.map (shStep (impl_Plan_firstSame.firsts (exps m ss)))).length - 1:=by
 intro j hj
 rw [List.length_map] at hj
 obtain ⟨a,b⟩:=hos j hj
 obtain ⟨_,c,d⟩:=first_in m ss ho (rd os j) a (by omega)
 have e:rd (os.map (rd (impl_Plan_firstSame.firsts (exps m ss)))) j=rd (impl_Plan_firstSame.firsts (exps m ss)) (rd os j):=by
  rw [rd_nat (os.map _) j,rd_nat os j]
  simp [List.getD,hj]
 rw [e,List.length_map]
 omega
def shared (m:Nat) (ss:List St) (os:List Int):Int × List St × List Int × Bool:=((m:Int),tSteps m (ss.map (shStep (impl_Plan_firstSame.firsts (exps m ss)))) (os.map (rd (impl_Plan_firstSame.firsts (exps m ss)))),tOuts m (ss.map (shStep (impl_Plan_firstSame.firsts (exps m ss)))) (os.map (rd (impl_Plan_firstSame.firsts (exps m ss)))),true)
def answer (n:Int) (ss:List St) (os:List Int):Int × List St × List Int × Bool:=if planOk n ss os=true then shared n.toNat ss os else (0,[],[],false)
theorem spec_ev (n:Int) (ss:List St) (os:List Int):Ev (fun k=>spec_SharePlan.f k n ss os) (answer n ss os):=by
 unfold spec_SharePlan.f answer
 refine ev_bind (plGood_ev n ss os) ?_
 by_cases c:planOk n ss os=true
 ·obtain ⟨m,rfl,h1,h2,h3,h4,ho,hos,_⟩:=planOk_of c
  simp only [c,if_true,Int.toNat_natCast]
  refine ev_bind (plFirst_ev m ss os h2 h3 ho) ?_
  have hin:=fun v=>first_in m ss ho v
  have hord:=sh_order m ss ho
  have hout:=sh_outs m ss os ho hos
  unfold shared
  generalize impl_Plan_firstSame.firsts (exps m ss)=F at hin hord hout ⊢
  have lo:∀ (d i:Nat),i+d=os.length→Ev (fun k=>spec_SharePlan.l1 k F os os.length i m (ss.map (shStep F)) ((os.take i).map (rd F))) ((m:Int),tSteps m (ss.map (shStep F)) (os.map (rd F)),tOuts m (ss.map (shStep F)) (os.map (rd F)),true):=by
   intro d
   induction d with
   | zero=>
    intro i hd
    refine ev_shift ?_
    simp only [spec_SharePlan.l1,if_neg (show ¬ (i:Int) < (os.length:Int) by omega)]
    rw [List.take_of_length_le (by omega)]
    refine ev_bind (plUsed_ev m _ _ h1 h2 (by rw [List.length_map];exact h3) (by rw [List.length_map];exact h4) hord hout) ?_
    exact ev_bind (plKeep_ev m _ _ h1 h2 (by rw [List.length_map];exact h3) (by rw [List.length_map];exact h4) hord hout) (Ev.now _)
   | succ d ih=>
    intro i hd
    obtain ⟨a,b⟩:=hos i (by omega)
    obtain ⟨q,_,_⟩:=hin (rd os i) a (by omega)
    refine ev_shift ?_
    simp only [spec_SharePlan.l1,if_pos (show (i:Int) < (os.length:Int) by omega),if_pos (show (0:Int)≤(i:Int) by omega),if_pos a,if_pos q,if_pos (show ((os.take i).map (rd F)).length < 17592186044416 by rw [List.length_map,List.length_take];omega),w64 (show -9223372036854775808≤(i:Int)+1 by omega) (by omega)]
    have:=map_take (rd F) os i (by omega)
    rw [show os[i]'(by omega)=rd os i by rw [rd_nat];simp [List.getD,show i < os.length by omega]] at this
    rw [← this]
    exact ih (i+1) (by omega)
  have ls:∀ (d i:Nat),i+d=ss.length→Ev (fun k=>spec_SharePlan.l0 k F ss ss.length i m ss os m ((ss.take i).map (shStep F))) ((m:Int),tSteps m (ss.map (shStep F)) (os.map (rd F)),tOuts m (ss.map (shStep F)) (os.map (rd F)),true):=by
   intro d
   induction d with
   | zero=>
    intro i hd
    refine ev_shift ?_
    simp only [spec_SharePlan.l0,if_neg (show ¬ (i:Int) < (ss.length:Int) by omega)]
    rw [List.take_of_length_le (by omega)]
    exact lo os.length 0 (by omega)
   | succ d ih=>
    intro i hd
    obtain ⟨a,b,c'⟩:=ho i (by omega)
    obtain ⟨q,_,_⟩:=hin (rd_T73 ss i).f0 a (by omega)
    obtain ⟨q',_,_⟩:=hin (rd_T73 ss i).f1 (by omega) (by omega)
    refine ev_shift ?_
    simp only [spec_SharePlan.l0,if_pos (show (i:Int) < (ss.length:Int) by omega),if_pos (show (0:Int)≤(i:Int) by omega),if_pos a,if_pos q,if_pos (show 0≤(rd_T73 ss i).f1 by omega),if_pos q',spec_plStep.f,least_mn,most_mx,Option.bind_some,if_pos (show ((ss.take i).map (shStep F)).length < 8796093022208 by rw [List.length_map,List.length_take];omega),w64 (show -9223372036854775808≤(i:Int)+1 by omega) (by omega)]
    have:=map_take (shStep F) ss i (by omega)
    rw [← rdS_mem ss i (by omega)] at this
    have t:(ss.take i).map (shStep F)++[(⟨mn (rd F (rd_T73 ss i).f0) (rd F (rd_T73 ss i).f1),mx (rd F (rd_T73 ss i).f0) (rd F (rd_T73 ss i).f1)⟩ : St)]=(ss.take (i+1)).map (shStep F):=this.symm
    rw [t]
    exact ih (i+1) (by omega)
  exact ls ss.length 0 (by omega)
 ·simp only [if_neg c];exact Ev.now _
theorem impl_ev (n:Int) (ss:List St) (os:List Int):Ev (fun k=>impl_SharePlan.f k n ss os) (answer n ss os):=by
 unfold impl_SharePlan.f answer
 refine ev_bind (isPlan_ev n ss os) ?_
 by_cases c:planOk n ss os=true
 ·obtain ⟨m,rfl,h1,h2,h3,h4,ho,hos,_⟩:=planOk_of c
  simp only [c,if_true,Int.toNat_natCast]
  refine ev_bind (firstSame_ev m ss os h2 h3 ho) ?_
  have hin:=fun v=>first_in m ss ho v
  have hord:=sh_order m ss ho
  have hout:=sh_outs m ss os ho hos
  unfold shared
  generalize impl_Plan_firstSame.firsts (exps m ss)=F at hin hord hout ⊢
  refine ev_bind (renamed_ev os F (by omega) (fun x hx=>?_)) ?_
  ·obtain ⟨j,hj,rfl⟩:=List.mem_iff_getElem.1 hx
   have:=hos j hj
   rw [rd_nat,show os.getD j 0=os[j] by simp [List.getD,hj]] at this
   exact ⟨this.1,(hin _ this.1 (by omega)).1⟩
  have ls:∀ (d i:Nat),i+d=ss.length→Ev (fun k=>impl_SharePlan.l0 k F ss ss.length i m ((ss.take i).map (shStep F)) (os.map (rd F))) ((m:Int),tSteps m (ss.map (shStep F)) (os.map (rd F)),tOuts m (ss.map (shStep F)) (os.map (rd F)),true):=by
   intro d
   induction d with
   | zero=>
    intro i hd
    refine ev_shift ?_
    simp only [impl_SharePlan.l0,if_neg (show ¬ (i:Int) < (ss.length:Int) by omega)]
    rw [List.take_of_length_le (by omega)]
    exact ev_bind (trimmed_ev m _ _ h1 h2 (by rw [List.length_map];exact h3) (by rw [List.length_map];exact h4) hord hout) (Ev.now _)
   | succ d ih=>
    intro i hd
    obtain ⟨a,b,c'⟩:=ho i (by omega)
    obtain ⟨q,_,_⟩:=hin (rd_T73 ss i).f0 a (by omega)
    obtain ⟨q',_,_⟩:=hin (rd_T73 ss i).f1 (by omega) (by omega)
    refine ev_shift ?_
    simp only [impl_SharePlan.l0,if_pos (show (i:Int) < (ss.length:Int) by omega),if_pos (show (0:Int)≤(i:Int) by omega),if_pos a,if_pos q,if_pos (show 0≤(rd_T73 ss i).f1 by omega),if_pos q',impl_step.f,Option.bind_some,if_pos (show ((ss.take i).map (shStep F)).length < 8796093022208 by rw [List.length_map,List.length_take];omega),w64 (show -9223372036854775808≤(i:Int)+1 by omega) (by omega)]
    have:=map_take (shStep F) ss i (by omega)
    rw [← rdS_mem ss i (by omega)] at this
    have t:(ss.take i).map (shStep F)++[(⟨mn (rd F (rd_T73 ss i).f0) (rd F (rd_T73 ss i).f1),mx (rd F (rd_T73 ss i).f0) (rd F (rd_T73 ss i).f1)⟩ : St)]=(ss.take (i+1)).map (shStep F):=this.symm
    rw [t]
    exact ih (i+1) (by omega)
  exact ls ss.length 0 (by omega)
 ·simp only [if_neg c];exact Ev.now _
theorem answer_len (n:Int) (ss:List St) (os:List Int):(answer n ss os).2.1.length≤1000000∧(answer n ss os).2.2.1.length≤1000000:=by
 unfold answer
 split
 ·rename_i c
  obtain ⟨m,rfl,h1,h2,h3,h4,_⟩:=planOk_of c
  rw [Int.toNat_natCast]
  unfold shared
  generalize impl_Plan_firstSame.firsts (exps m ss)=F
  have a:=tSteps_length m (ss.map (shStep F)) (os.map (rd F))
  have b:=tOuts_length m (ss.map (shStep F)) (os.map (rd F))
  rw [List.length_map] at a b
  exact ⟨(show (tSteps m (ss.map (shStep F)) (os.map (rd F))).length≤1000000 by omega),(show (tOuts m (ss.map (shStep F)) (os.map (rd F))).length≤1000000 by omega)⟩
 ·exact ⟨Nat.zero_le _,Nat.zero_le _⟩
theorem FnExactSharePlan:laws_FnExactSharePlan.Pure:=by
 intro n l1 l2 _ _ m1 _ m2
 by_cases hl:l1.length+l2.length≤1048576
 ·obtain ⟨a,b⟩:=answer_len n (l1.map cv) l2
  exact (tail_ n l1 l2 hl _ _ _ _ a b (spec_ev n (l1.map cv) l2) (impl_ev n (l1.map cv) l2)).rounds
 ·exact over_ n l1 l2 m1 m2 hl
end Go.Proofs.Ytdcdaoancmpbeaa.Pure
--sq
