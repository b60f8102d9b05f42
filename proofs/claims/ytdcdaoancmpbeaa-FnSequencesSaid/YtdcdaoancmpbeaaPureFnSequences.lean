import Derived.Test.YtdcdaoancmpbeaaMFnSequencesx17
namespace Go.Proofs.Ytdcdaoancmpbeaa.Pure
open Go.RowKit Go.Proofs.Ytdcdaoancmpbeaa.MFnSequences Go.Proofs.YtdcdaoancmpbeaaW.PrintWords Go.Proofs.YtdcdaoancmpbeaaW.PrintLast Go.Proofs.YtdcdaoancmpbeaaW.PrintMore
open Go.Proofs.YtdcdaoancmpbeaaH Go.Proofs.YtdcdaoancmpbeaaB
set_option linter.unusedVariables false
set_option linter.unusedSimpArgs false
theorem w64 {x:Int} (h1 : -9223372036854775808≤x) (h2:x≤9223372036854775807):wrap64 x=x:=by unfold wrap64;omega
theorem rd_nat (xs:List Int) (j:Nat):rd xs (j:Int)=xs.getD j 0:=by unfold rd;rw [Int.toNat_natCast]
theorem ev_shift {α:Type} {g:Nat→Option α} {r:α} (h:Ev (fun k=>g (k+1)) r):Ev g r:=by
 obtain ⟨K,hK⟩:=h
 refine ⟨K+1,fun k hk=>?_⟩
 obtain ⟨m,rfl⟩ : ∃ m,k=m+1:=⟨k - 1,by omega⟩
 exact hK m (by omega)
theorem ev_bind {α β:Type} {g:Nat→Option α} {F:Nat→α→Option β} {a:α} {r:β} (h:Ev g a) (k:Ev (fun n=>F n a) r):Ev (fun n=>(g n).bind (fun x=>F n x)) r:=Ev.bind h k
abbrev St:=S73
def inner (xs:List Int) (k j:Int):Nat→Int→List St
 | 0,_=>[]
 | d+1,i=>if wrap64 (rd xs i+rd xs j)=rd xs k then ⟨i,j⟩ :: inner xs k j d (i+1) else inner xs k j d (i+1)
def outer (xs:List Int) (k:Int):Nat→Int→List St
 | 0,_=>[]
 | d+1,j=>inner xs k j (j+1).toNat 0++outer xs k d (j+1)
def sumsOf (xs:List Int) (k:Int):List St:=outer xs k k.toNat 0
theorem inner_length (xs:List Int) (k j:Int):∀ (d:Nat) (i:Int),(inner xs k j d i).length≤d
 | 0,_=>Nat.le_refl _
 | d+1,i=>by
  have:=inner_length xs k j d (i+1)
  unfold inner
  split
  ·simp only [List.length_cons];omega
  ·omega
theorem spec_inner (xs:List Int) (k j:Int) (r:List St) (hj:0≤j) (hjk:j < k) (hk:k < xs.length) (hl:xs.length≤100000):∀ (d:Nat) (i:Int) (acc:List St),0≤i→i+d=j+1→acc.length+d≤8000000000000 →
  Ev (fun f=>spec_chPairs.l0 f xs k (acc++inner xs k j d i) (j+1)) r→Ev (fun f=>spec_chPairs.l1 f xs k acc j i) r:=by
 intro d
 induction d with
 | zero=>
  intro i acc hi hd _ h
  refine ev_shift ?_
  simp only [spec_chPairs.l1,if_neg (show ¬ i≤j by omega),w64 (show -9223372036854775808≤j+1 by omega) (by omega)]
  simpa [inner] using h
 | succ d ih=>
  intro i acc hi hd hacc h
  refine ev_shift ?_
  simp only [spec_chPairs.l1,if_pos (show i≤j by omega),if_pos hi,if_pos (show i < (xs.length:Int) by omega),if_pos hj,if_pos (show j < (xs.length:Int) by omega),if_pos (show 0≤k by omega),if_pos hk,
   w64 (show -9223372036854775808≤i+1 by omega) (by omega)]
  by_cases c:wrap64 (rd xs i+rd xs j)=rd xs k
  ·simp only [if_pos c,if_pos (show acc.length < 8796093022208 by omega)]
   refine ih (i+1) (acc++[⟨i,j⟩]) (by omega) (by omega) (by simp only [List.length_append,List.length_singleton];omega) ?_
   simpa [inner,c] using h
  ·simp only [if_neg c]
   refine ih (i+1) acc (by omega) (by omega) (by omega) ?_
   simpa [inner,c] using h
theorem spec_outer (xs:List Int) (k:Int) (hk:k < xs.length) (hl:xs.length≤100000):∀ (d:Nat) (j:Int) (acc:List St),0≤j→j+d=k→acc.length+d*100001≤8000000000000 →
  Ev (fun f=>spec_chPairs.l0 f xs k acc j) (acc++outer xs k d j):=by
 intro d
 induction d with
 | zero=>
  intro j acc hj hd _
  refine ev_shift ?_
  simp only [spec_chPairs.l0,if_neg (show ¬ j < k by omega),outer,List.append_nil]
  exact Ev.now _
 | succ d ih=>
  intro j acc hj hd hacc
  refine ev_shift ?_
  simp only [spec_chPairs.l0,if_pos (show j < k by omega)]
  have hi:=inner_length xs k j (j+1).toNat 0
  refine spec_inner xs k j _ hj (by omega) hk hl (j+1).toNat 0 acc (by omega) (by omega) (by omega) ?_
  have h:=ih (j+1) (acc++inner xs k j (j+1).toNat 0) (by omega) (by omega) (by rw [List.length_append];omega)
  simpa [outer] using h
theorem chPairs_ev (xs:List Int) (k:Int) (h0:0≤k) (hk:k < xs.length) (hl:xs.length≤100000):Ev (fun f=>spec_chPairs.f f xs k) (sumsOf xs k):=by
 have h:=spec_outer xs k hk hl k.toNat 0 [] (by omega) (by omega) (by simp only [List.length_nil];omega)
 simpa [sumsOf,spec_chPairs.f] using h
theorem impl_inner (xs:List Int) (k j:Int) (r:List St) (hj:0≤j) (hjk:j < k) (hk:k < xs.length) (hl:xs.length≤100000):∀ (d:Nat) (i:Int) (acc:List St),0≤i→i+d=j+1→acc.length+d≤8000000000000 →
  Ev (fun f=>impl_sums.l0 f xs k (acc++inner xs k j d i) k (j+1)) r→Ev (fun f=>impl_sums.l1 f xs k acc j k j (j+1) i) r:=by
 intro d
 induction d with
 | zero=>
  intro i acc hi hd _ h
  refine ev_shift ?_
  simp only [impl_sums.l1,if_neg (show ¬ i < j+1 by omega),w64 (show -9223372036854775808≤j+1 by omega) (by omega)]
  simpa [inner] using h
 | succ d ih=>
  intro i acc hi hd hacc h
  refine ev_shift ?_
  simp only [impl_sums.l1,if_pos (show i < j+1 by omega),if_pos hi,if_pos (show i < (xs.length:Int) by omega),if_pos hj,if_pos (show j < (xs.length:Int) by omega),if_pos (show 0≤k by omega),if_pos hk,
   w64 (show -9223372036854775808≤i+1 by omega) (by omega)]
  by_cases c:wrap64 (rd xs i+rd xs j)=rd xs k
  ·simp only [if_pos c,if_pos (show acc.length < 8796093022208 by omega)]
   refine ih (i+1) (acc++[⟨i,j⟩]) (by omega) (by omega) (by simp only [List.length_append,List.length_singleton];omega) ?_
   simpa [inner,c] using h
  ·simp only [if_neg c]
   refine ih (i+1) acc (by omega) (by omega) (by omega) ?_
   simpa [inner,c] using h
theorem impl_outer (xs:List Int) (k:Int) (hk:k < xs.length) (hl:xs.length≤100000):∀ (d:Nat) (j:Int) (acc:List St),0≤j→j+d=k→acc.length+d*100001≤8000000000000 →
  Ev (fun f=>impl_sums.l0 f xs k acc k j) (acc++outer xs k d j):=by
 intro d
 induction d with
 | zero=>
  intro j acc hj hd _
  refine ev_shift ?_
  simp only [impl_sums.l0,if_neg (show ¬ j < k by omega),outer,List.append_nil]
  exact Ev.now _
 | succ d ih=>
  intro j acc hj hd hacc
  refine ev_shift ?_
  simp only [impl_sums.l0,if_pos (show j < k by omega),w64 (show -9223372036854775808≤j+1 by omega) (by omega)]
  have hi:=inner_length xs k j (j+1).toNat 0
  refine impl_inner xs k j _ hj (by omega) hk hl (j+1).toNat 0 acc (by omega) (by omega) (by omega) ?_
  have h:=ih (j+1) (acc++inner xs k j (j+1).toNat 0) (by omega) (by omega) (by rw [List.length_append];omega)
  simpa [outer] using h
theorem sums_ev (xs:List Int) (k:Int) (h0:0≤k) (hk:k < xs.length) (hl:xs.length≤100000):Ev (fun f=>impl_sums.f f xs k) (sumsOf xs k):=by
 have h:=impl_outer xs k hk hl k.toNat 0 [] (by omega) (by omega) (by simp only [List.length_nil];omega)
 simpa [sumsOf,impl_sums.f] using h
def risingFrom (xs:List Int):Nat→Int→Bool
 | 0,_=>true
 | d+1,i=>if rd xs i ≥ 1 then (if rd xs i≤1000000 then (if i > 0 then (if rd xs (i - 1) ≥ rd xs i then false else risingFrom xs d (i+1)) else risingFrom xs d (i+1)) else false) else false
def pairsFrom (xs:List Int):Nat→Int→Bool
 | 0,_=>true
 | d+1,k=>if (sumsOf xs k).length=0 then false else pairsFrom xs d (k+1)
def implFrom (xs:List Int):Nat→Int→Bool
 | 0,_=>true
 | d+1,k=>if rd xs k≤rd xs (k - 1) then false else if rd xs k > 1000000 then false else if (sumsOf xs k).length=0 then false else implFrom xs d (k+1)
def chain (xs:List Int):Bool:=if 1≤xs.length∧xs.length≤41 then (if rd xs 0=1 then implFrom xs (xs.length - 1) 1 else false) else false
theorem from_same (xs:List Int):∀ (d:Nat) (i:Int),1≤i→1≤rd xs (i - 1)→(risingFrom xs d i && pairsFrom xs d i)=implFrom xs d i
 | 0,_,_,_=>rfl
 | d+1,i,h1,h2=>by
  unfold risingFrom pairsFrom implFrom
  rw [if_pos (show i > 0 by omega)]
  by_cases c1:rd xs i≤rd xs (i - 1)
  ·rw [if_pos c1,if_pos (show rd xs (i - 1) ≥ rd xs i from c1)]
   split
   ·split <;> rfl
   ·rfl
  ·rw [if_neg c1,if_neg (show ¬ rd xs (i - 1) ≥ rd xs i from c1),if_pos (show rd xs i ≥ 1 by omega)]
   by_cases c2:rd xs i > 1000000
   ·rw [if_pos c2,if_neg (by omega)];rfl
   ·rw [if_neg c2,if_pos (by omega)]
    by_cases c3:(sumsOf xs i).length=0
    ·rw [if_pos c3,if_pos c3,Bool.and_false]
    ·rw [if_neg c3,if_neg c3]
     have e:i+1 - 1=i:=by omega
     exact from_same xs d (i+1) (by omega) (by rw [e];omega)
theorem l1In_eq (a b c:Int):spec_l1In.f a b c=some (decide (b≤a) && decide (a≤c)):=by
 unfold spec_l1In.f
 by_cases h:a ≥ b
 ·rw [if_pos h];simp [show b≤a from h]
 ·rw [if_neg h];simp [show ¬ b≤a from h]
theorem in_eq (a b c:Int):impl_in.f a b c=some (decide (b≤a) && decide (a≤c)):=by
 unfold impl_in.f
 by_cases h:a ≥ b
 ·rw [if_pos h];simp [show b≤a from h]
 ·rw [if_neg h];simp [show ¬ b≤a from h]
theorem rising_ev (xs:List Int) (hl:xs.length≤100000):∀ (d:Nat) (i:Int),0≤i→i+d=xs.length→Ev (fun f=>spec_l1Rising.l0 f xs 1 1000000 xs xs.length i) (risingFrom xs d i):=by
 intro d
 induction d with
 | zero=>
  intro i h0 hd
  refine ev_shift ?_
  simp only [spec_l1Rising.l0,if_neg (show ¬ i < (xs.length:Int) by omega),risingFrom]
  exact Ev.now _
 | succ d ih=>
  intro i h0 hd
  have hn:=ih (i+1) (by omega) (by omega)
  refine ev_shift ?_
  simp only [spec_l1Rising.l0,if_pos (show i < (xs.length:Int) by omega),if_pos h0,w64 (show -9223372036854775808≤i+1 by omega) (by omega),w64 (show -9223372036854775808≤i - 1 by omega) (by omega),l1In_eq,Option.bind_some]
  unfold risingFrom
  by_cases c1:rd xs i ≥ 1
  ·by_cases c2:rd xs i≤1000000
   ·rw [if_pos c1,if_pos c2]
    simp only [decide_eq_true (show 1≤rd xs i from c1),decide_eq_true c2,Bool.and_self,if_true]
    by_cases c3:i > 0
    ·simp only [if_pos c3,if_pos (show 0≤i - 1 by omega),if_pos (show i - 1 < (xs.length:Int) by omega)]
     by_cases c4:rd xs (i - 1) ≥ rd xs i
     ·simp only [if_pos c4];exact Ev.now _
     ·simp only [if_neg c4];exact hn
    ·simp only [if_neg c3];exact hn
   ·rw [if_pos c1,if_neg c2]
    simp only [decide_eq_false c2,Bool.and_false,Bool.false_eq_true,if_false]
    exact Ev.now _
  ·rw [if_neg c1]
   simp only [decide_eq_false (show ¬ 1≤rd xs i from c1),Bool.false_and,Bool.false_eq_true,if_false]
   exact Ev.now _
theorem pairs_ev (xs:List Int) (hl:xs.length≤100000):∀ (d:Nat) (k:Int),0≤k→k+d=xs.length→Ev (fun f=>spec_chGood.l0 f xs k) (pairsFrom xs d k):=by
 intro d
 induction d with
 | zero=>
  intro i h0 hd
  refine ev_shift ?_
  simp only [spec_chGood.l0,if_neg (show ¬ i < (xs.length:Int) by omega),pairsFrom]
  exact Ev.now _
 | succ d ih=>
  intro i h0 hd
  have hn:=ih (i+1) (by omega) (by omega)
  refine ev_shift ?_
  simp only [spec_chGood.l0,if_pos (show i < (xs.length:Int) by omega),w64 (show -9223372036854775808≤i+1 by omega) (by omega)]
  refine ev_bind (chPairs_ev xs i h0 (by omega) hl) ?_
  unfold pairsFrom
  by_cases c:(sumsOf xs i).length=0
  ·simp only [if_pos c,if_pos (show ((sumsOf xs i).length:Int)=0 by omega)];exact Ev.now _
  ·simp only [if_neg c,if_neg (show ¬ ((sumsOf xs i).length:Int)=0 by omega)];exact hn
theorem implFrom_ev (xs:List Int) (hl:xs.length≤100000):∀ (d:Nat) (k:Int),1≤k→k+d=xs.length→Ev (fun f=>impl_IsChain.l0 f xs k) (implFrom xs d k):=by
 intro d
 induction d with
 | zero=>
  intro i h0 hd
  refine ev_shift ?_
  simp only [impl_IsChain.l0,if_neg (show ¬ i < (xs.length:Int) by omega),implFrom]
  exact Ev.now _
 | succ d ih=>
  intro i h0 hd
  have hn:=ih (i+1) (by omega) (by omega)
  refine ev_shift ?_
  simp only [impl_IsChain.l0,if_pos (show i < (xs.length:Int) by omega),if_pos (show 0≤i by omega),w64 (show -9223372036854775808≤i+1 by omega) (by omega),w64 (show -9223372036854775808≤i - 1 by omega) (by omega),if_pos (show 0≤i - 1 by omega),if_pos (show i - 1 < (xs.length:Int) by omega)]
  unfold implFrom
  by_cases c1:rd xs i≤rd xs (i - 1)
  ·simp only [if_pos c1];exact Ev.now _
  ·simp only [if_neg c1]
   by_cases c2:rd xs i > 1000000
   ·simp only [if_pos c2];exact Ev.now _
   ·simp only [if_neg c2]
    refine ev_bind (sums_ev xs i (by omega) (by omega) hl) ?_
    by_cases c:(sumsOf xs i).length=0
    ·simp only [if_pos c,if_pos (show ((sumsOf xs i).length:Int)=0 by omega)];exact Ev.now _
    ·simp only [if_neg c,if_neg (show ¬ ((sumsOf xs i).length:Int)=0 by omega)];exact hn
theorem isChain_ev (xs:List Int) (hl:xs.length≤1048576):Ev (fun f=>impl_IsChain.f f xs) (chain xs):=by
 unfold impl_IsChain.f chain
 simp only [in_eq,Option.bind_some]
 by_cases c:1≤xs.length∧xs.length≤41
 ·simp only [if_pos c,decide_eq_true (show (1:Int)≤xs.length by omega),decide_eq_true (show (xs.length:Int)≤41 by omega),Bool.and_self,if_true,if_pos (show (0:Int) < xs.length by omega)]
  by_cases c1:rd xs 0=1
  ·simp only [if_pos c1]
   refine ev_shift ?_
   simp only [impl_IsChain.j0,c1,bne_self_eq_false,Bool.false_eq_true,if_false]
   exact implFrom_ev xs (by omega) (xs.length - 1) 1 (by omega) (by omega)
  ·simp only [if_neg c1]
   refine ev_shift ?_
   simp only [impl_IsChain.j0,bne_iff_ne.mpr c1,if_true]
   exact Ev.now _
 ·rw [if_neg c]
  have e:(decide ((1:Int)≤xs.length) && decide ((xs.length:Int)≤41))=false:=by
   rw [Bool.and_eq_false_iff,decide_eq_false_iff_not,decide_eq_false_iff_not];omega
  simp only [e,Bool.false_eq_true,if_false]
  refine ev_shift ?_
  simp only [impl_IsChain.j0,if_true]
  exact Ev.now _
theorem chGood_ev (xs:List Int) (hl:xs.length≤1048576):Ev (fun f=>spec_chGood.f f xs) (chain xs):=by
 unfold spec_chGood.f chain
 simp only [l1In_eq,Option.bind_some]
 by_cases c:1≤xs.length∧xs.length≤41
 ·simp only [if_pos c,decide_eq_true (show (1:Int)≤xs.length by omega),decide_eq_true (show (xs.length:Int)≤41 by omega),Bool.and_self,if_true,if_pos (show (0:Int) < xs.length by omega)]
  by_cases c1:rd xs 0=1
  ·simp only [if_pos c1]
   unfold spec_l1Rising.f
   refine ev_bind (rising_ev xs (by omega) xs.length 0 (by omega) (by omega)) ?_
   obtain ⟨n,hn⟩ : ∃ n,xs.length=n+1:=⟨xs.length - 1,by omega⟩
   have e1:risingFrom xs xs.length 0=risingFrom xs n 1:=by
    rw [hn,risingFrom,c1,if_pos (by decide),if_pos (by decide),if_neg (by decide)]
    rfl
   have e2:xs.length - 1=n:=by omega
   rw [e1,e2,← from_same xs n 1 (by omega) (by rw [show (1:Int) - 1=0 from rfl,c1];omega)]
   refine ev_shift ?_
   simp only [spec_chGood.j0]
   cases hr:risingFrom xs n 1 with
   | false=>
    simp only [Bool.not_false,if_true,Bool.false_and]
    exact Ev.now _
   | true=>
    simp only [Bool.not_true,Bool.false_eq_true,if_false,Bool.true_and]
    exact pairs_ev xs (by omega) n 1 (by omega) (by omega)
  ·simp only [if_neg c1]
   refine ev_shift ?_
   simp only [spec_chGood.j0,if_true]
   exact Ev.now _
 ·rw [if_neg c]
  have e:(decide ((1:Int)≤xs.length) && decide ((xs.length:Int)≤41))=false:=by
   rw [Bool.and_eq_false_iff,decide_eq_false_iff_not,decide_eq_false_iff_not];omega
  simp only [e,Bool.false_eq_true,if_false]
  refine ev_shift ?_
  simp only [spec_chGood.j0,if_true]
  exact Ev.now _
theorem implFrom_head (xs:List Int) (d:Nat) (k:Int) (h:implFrom xs (d+1) k=true):(sumsOf xs k).length≠0∧implFrom xs d (k+1)=true∧rd xs (k - 1) < rd xs k∧rd xs k≤1000000:=by
 unfold implFrom at h
 split at h
 ·cases h
 ·split at h
  ·cases h
  ·split at h
   ·cases h
   ·rename_i a b c
    exact ⟨c,h,by omega,by omega⟩
theorem chain_from (xs:List Int) (h:chain xs=true):1≤xs.length∧xs.length≤41∧rd xs 0=1∧implFrom xs (xs.length - 1) 1=true:=by
 unfold chain at h
 split at h
 ·rename_i c
  split at h
  ·rename_i c1
   exact ⟨c.1,c.2,c1,h⟩
  ·cases h
 ·cases h
abbrev rdS (ss:List St) (i:Int):St:=rd_T73 ss i
theorem outer_length (xs:List Int) (k:Int):∀ (d:Nat) (j:Int),0≤j→j+d≤100000→(outer xs k d j).length≤d*100001
 | 0,_,_,_=>Nat.le_refl _
 | d+1,j,h0,h1=>by
  have h2:=outer_length xs k d (j+1) (by omega) (by omega)
  have h3:=inner_length xs k j (j+1).toNat 0
  unfold outer
  rw [List.length_append]
  omega
theorem sums_length (xs:List Int) (k:Int) (h0:0≤k) (h1:k≤100000):(sumsOf xs k).length≤10000100000:=by
 have:=outer_length xs k k.toNat 0 (by omega) (by omega)
 unfold sumsOf
 omega
def lastOf (ss:List St):St:=rdS ss (ss.length - 1)
def stepsFrom (xs:List Int):Nat→Int→List St
 | 0,_=>[]
 | d+1,k=>lastOf (sumsOf xs k) :: stepsFrom xs d (k+1)
theorem stepsFrom_length (xs:List Int):∀ (d:Nat) (k:Int),(stepsFrom xs d k).length=d
 | 0,_=>rfl
 | d+1,k=>by rw [stepsFrom,List.length_cons,stepsFrom_length xs d (k+1)]
def stepsOf (xs:List Int):List St:=stepsFrom xs (xs.length - 1) 1
theorem chSteps_loop (xs:List Int) (hl:xs.length≤100000):∀ (d:Nat) (k:Int) (acc:List St),1≤k→k+d=xs.length→acc.length+d≤8000000000000→implFrom xs d k=true→Ev (fun f=>spec_chSteps.l0 f xs acc k) (acc++stepsFrom xs d k):=by
 intro d
 induction d with
 | zero=>
  intro k acc h0 hd _ _
  refine ev_shift ?_
  simp only [spec_chSteps.l0,if_neg (show ¬ k < (xs.length:Int) by omega),stepsFrom,List.append_nil]
  exact Ev.now _
 | succ d ih=>
  intro k acc h0 hd ha hi
  obtain ⟨h1,h2,_,_⟩:=implFrom_head xs d k hi
  have h3:=sums_length xs k (by omega) (by omega)
  refine ev_shift ?_
  simp only [spec_chSteps.l0,if_pos (show k < (xs.length:Int) by omega),w64 (show -9223372036854775808≤k+1 by omega) (by omega)]
  refine ev_bind (chPairs_ev xs k (by omega) (by omega) hl) ?_
  simp only [w64 (show -9223372036854775808≤((sumsOf xs k).length:Int) - 1 by omega) (by omega),if_pos (show 0≤((sumsOf xs k).length:Int) - 1 by omega),if_pos (show ((sumsOf xs k).length:Int) - 1 < (sumsOf xs k).length by omega),if_pos (show acc.length < 8796093022208 by omega)]
  have h:=ih (k+1) (acc++[lastOf (sumsOf xs k)]) (by omega) (by omega) (by simp only [List.length_append,List.length_singleton];omega) h2
  simp only [List.append_assoc,List.singleton_append] at h
  exact h
theorem chainSteps_loop (xs:List Int) (hl:xs.length≤100000):∀ (d:Nat) (k:Int) (acc:List St),1≤k→k+d=xs.length→acc.length+d≤8000000000000→implFrom xs d k=true→Ev (fun f=>impl_chainSteps.l0 f xs acc k) (acc++stepsFrom xs d k):=by
 intro d
 induction d with
 | zero=>
  intro k acc h0 hd _ _
  refine ev_shift ?_
  simp only [impl_chainSteps.l0,if_neg (show ¬ k < (xs.length:Int) by omega),stepsFrom,List.append_nil]
  exact Ev.now _
 | succ d ih=>
  intro k acc h0 hd ha hi
  obtain ⟨h1,h2,_,_⟩:=implFrom_head xs d k hi
  have h3:=sums_length xs k (by omega) (by omega)
  refine ev_shift ?_
  simp only [impl_chainSteps.l0,if_pos (show k < (xs.length:Int) by omega),w64 (show -9223372036854775808≤k+1 by omega) (by omega)]
  refine ev_bind (sums_ev xs k (by omega) (by omega) hl) ?_
  simp only [w64 (show -9223372036854775808≤((sumsOf xs k).length:Int) - 1 by omega) (by omega),if_pos (show 0≤((sumsOf xs k).length:Int) - 1 by omega),if_pos (show ((sumsOf xs k).length:Int) - 1 < (sumsOf xs k).length by omega),if_pos (show acc.length < 8796093022208 by omega)]
  have h:=ih (k+1) (acc++[lastOf (sumsOf xs k)]) (by omega) (by omega) (by simp only [List.length_append,List.length_singleton];omega) h2
  simp only [List.append_assoc,List.singleton_append] at h
  exact h
theorem chSteps_ev (xs:List Int) (h:chain xs=true):Ev (fun f=>spec_chSteps.f f xs) (stepsOf xs):=by
 obtain ⟨h1,h2,_,h4⟩:=chain_from xs h
 have:=chSteps_loop xs (by omega) (xs.length - 1) 1 [] (by omega) (by omega) (by simp only [List.length_nil];omega) h4
 simpa [stepsOf,spec_chSteps.f] using this
theorem chainSteps_ev (xs:List Int) (h:chain xs=true):Ev (fun f=>impl_chainSteps.f f xs) (stepsOf xs):=by
 obtain ⟨h1,h2,_,h4⟩:=chain_from xs h
 have:=chainSteps_loop xs (by omega) (xs.length - 1) 1 [] (by omega) (by omega) (by simp only [List.length_nil];omega) h4
 simpa [stepsOf,impl_chainSteps.f] using this
theorem rdS_nat (ss:List St) (j:Nat):rdS ss (j:Int)=ss.getD j z73:=by unfold rdS rd_T73;rw [Int.toNat_natCast]
def allFrom (xs:List Int) (a b:Int):Nat→Int→Bool
 | 0,_=>true
 | d+1,i=>if a≤rd xs i∧rd xs i≤b then allFrom xs a b d (i+1) else false
def InOrder (n:Nat) (ss:List (S73)):Prop:=∀ i:Nat,i < ss.length→0≤(rd_T73 ss i).f0∧(rd_T73 ss i).f0≤(rd_T73 ss i).f1∧(rd_T73 ss i).f1 < n+i
def cap2 (x:Int):Int:=if x < 1000001 then x else 1000001
def sumFrom (a b:List Int):Nat→Int→List Int
 | 0,_=>[]
 | d+1,k=>cap2 (wrap64 (rd a k+rd b k)) :: sumFrom a b d (k+1)
theorem sumFrom_length (a b:List Int):∀ d k,(sumFrom a b d k).length=d
 | 0,_=>rfl
 | d+1,k=>by rw [sumFrom,List.length_cons,sumFrom_length a b d (k+1)]
def addRow (a b:List Int):List Int:=sumFrom a b a.length 0
def row0 (n i:Nat):List Int:=(List.replicate n 0).set i 1
def base0 (n m:Nat):List (List Int):=(List.range m).map (row0 n)
theorem base0_succ (n m:Nat):base0 n (m+1)=base0 n m++[row0 n m]:=by unfold base0;rw [List.range_succ,List.map_append];rfl
theorem base0_length (n m:Nat):(base0 n m).length=m:=by unfold base0;simp
def grow (ss:List (S73)):Nat→Int→List (List Int)→List (List Int)
 | 0,_,rows=>rows
 | d+1,i,rows=>grow ss d (i+1) (rows++[addRow (rd_L4 rows (rd_T73 ss i).f0) (rd_L4 rows (rd_T73 ss i).f1)])
def exps (n:Nat) (ss:List (S73)):List (List Int):=grow ss ss.length 0 (base0 n n)
def RowOk (n:Nat) (r:List Int):Prop:=r.length=n∧∀ e∈r,0≤e∧e≤1000001
def RowsOk (n m:Nat) (rows:List (List Int)):Prop:=rows.length=m∧∀ r∈rows,RowOk n r
theorem rd_mem (rows:List (List Int)) (a:Int) (h0:0≤a) (h1:a < rows.length):rd_L4 rows a∈rows:=by
 unfold rd_L4
 have h:a.toNat < rows.length:=by omega
 rw [show rows.getD a.toNat []=rows[a.toNat] by simp [List.getD,h]]
 exact List.getElem_mem h
theorem rd_in (r:List Int) (n:Nat) (hr:RowOk n r) (i:Int):0≤rd r i∧rd r i≤1000001:=by
 unfold rd
 rw [List.getD_eq_getElem?_getD]
 cases h:r[i.toNat]? with
 | none=>simp
 | some e=>exact hr.2 e (List.mem_of_getElem? h)
theorem sumFrom_ok (n:Nat) (a b:List Int) (ha:RowOk n a) (hb:RowOk n b):∀ d k,∀ e∈sumFrom a b d k,0≤e∧e≤1000001
 | 0,_,e,h=>by cases h
 | d+1,k,e,h=>by
  rw [sumFrom] at h
  rcases List.mem_cons.1 h with rfl|h
  ·have:=rd_in a n ha k
   have:=rd_in b n hb k
   rw [w64 (by omega) (by omega)]
   unfold cap2
   split <;> omega
  ·exact sumFrom_ok n a b ha hb d (k+1) e h
theorem addRow_ok (n:Nat) (a b:List Int) (ha:RowOk n a) (hb:RowOk n b):RowOk n (addRow a b):=⟨by unfold addRow;rw [sumFrom_length];exact ha.1,sumFrom_ok n a b ha hb _ _⟩
theorem base0_ok (n m:Nat):RowsOk n m (base0 n m):=by
 refine ⟨base0_length n m,fun r hr=>?_⟩
 unfold base0 at hr
 obtain ⟨i,_,rfl⟩:=List.mem_map.1 hr
 refine ⟨by unfold row0;simp,fun e he=>?_⟩
 unfold row0 at he
 rcases List.mem_or_eq_of_mem_set he with h|rfl
 ·have:=(List.mem_replicate.1 h).2
  omega
 ·omega
theorem RowsOk.snoc {n m:Nat} {rows:List (List Int)} {r:List Int} (h:RowsOk n m rows) (hr:RowOk n r):RowsOk n (m+1) (rows++[r]):=⟨by rw [List.length_append,h.1];rfl,fun q hq=>by
 rcases List.mem_append.1 hq with h1|h1
 ·exact h.2 q h1
 ·rw [List.mem_singleton.1 h1];exact hr⟩
theorem grow_ok (n:Nat) (ss:List (S73)) (ho:InOrder n ss):∀ (d i:Nat) (rows:List (List Int)),i+d=ss.length→RowsOk n (n+i) rows→RowsOk n (n+ss.length) (grow ss d i rows):=by
 intro d
 induction d with
 | zero=>
  intro i rows hd h
  obtain rfl:i=ss.length:=by omega
  exact h
 | succ d ih=>
  intro i rows hd h
  obtain ⟨h1,h2,h3⟩:=ho i (by omega)
  have hl:=h.1
  rw [grow]
  exact ih (i+1) _ (by omega) (h.snoc (addRow_ok n _ _ (h.2 _ (rd_mem rows _ h1 (by omega))) (h.2 _ (rd_mem rows _ (by omega) (by omega)))))
theorem exps_ok (n:Nat) (ss:List (S73)) (ho:InOrder n ss):RowsOk n (n+ss.length) (exps n ss):=grow_ok n ss ho ss.length 0 _ (by omega) (base0_ok n n)
theorem exponents_ev (n:Nat) (ss:List (S73)) (os:List Int) (hn:n≤6) (hs:ss.length≤40) (ho:InOrder n ss):Ev (fun k=>impl_Plan_exponents.f k n ss os) (exps n ss):=by
 have inner:∀ (rows:List (List Int)) (i:Nat) (A B:Int) (r:List (List Int)),rows.length≤100→RowOk n (rd_L4 rows A)→RowOk n (rd_L4 rows B)→0≤B→B < rows.length→Ev (fun k=>impl_Plan_exponents.l1 k (rows++[addRow (rd_L4 rows A) (rd_L4 rows B)]) ss ss.length (wrap64 ((i:Int)+1))) r→∀ (d:Nat) (j:Int) (acc:List Int),0≤j→j+d=(rd_L4 rows A).length→acc.length+d≤1000000→acc++sumFrom (rd_L4 rows A) (rd_L4 rows B) d j=addRow (rd_L4 rows A) (rd_L4 rows B)→Ev (fun k=>impl_Plan_exponents.l2 k rows acc ss ss.length i (rd_L4 rows A) (rd_L4 rows A).length j A B) r:=by
  intro rows i A B r hl ra rb hb0 hb1 hr d
  induction d with
  | zero=>
   intro j acc h0 hd _ he
   rw [sumFrom,List.append_nil] at he
   refine ev_shift ?_
   simp only [impl_Plan_exponents.l2,if_neg (show ¬ j < ((rd_L4 rows A).length:Int) by omega),if_pos (show rows.length < 5864062014805 by omega)]
   rw [he]
   exact hr
  | succ d ih=>
   intro j acc h0 hd hacc he
   have hlen:(rd_L4 rows B).length=(rd_L4 rows A).length:=by rw [ra.1,rb.1]
   have e:∀ x:Int,mn x 1000001=cap2 x:=fun x=>by
    unfold mn cap2
    split <;> split <;> omega
   refine ev_shift ?_
   simp only [impl_Plan_exponents.l2,if_pos (show j < ((rd_L4 rows A).length:Int) by omega),if_pos h0,if_pos hb0,if_pos hb1,if_pos (show j < ((rd_L4 rows B).length:Int) by omega),if_pos (show acc.length < 17592186044416 by omega),e,w64 (show -9223372036854775808≤j+1 by omega) (by have:=ra.1;omega)]
   rw [sumFrom] at he
   exact ih (j+1) _ (by omega) (by omega) (by simp only [List.length_append,List.length_singleton];omega) (by rw [List.append_assoc,List.singleton_append];exact he)
 have second:∀ (d i:Nat) (rows:List (List Int)),i+d=ss.length→RowsOk n (n+i) rows→Ev (fun k=>impl_Plan_exponents.l1 k rows ss ss.length i) (grow ss d i rows):=by
  intro d
  induction d with
  | zero=>
   intro i rows hd _
   refine ev_shift ?_
   simp only [impl_Plan_exponents.l1,if_neg (show ¬ (i:Int) < (ss.length:Int) by omega),grow]
   exact Ev.now _
  | succ d ih=>
   intro i rows hd h
   obtain ⟨h1,h2,h3⟩:=ho i (by omega)
   have hl:=h.1
   have ra:=h.2 _ (rd_mem rows (rd_T73 ss i).f0 h1 (by omega))
   have rb:=h.2 _ (rd_mem rows (rd_T73 ss i).f1 (by omega) (by omega))
   refine ev_shift ?_
   simp only [impl_Plan_exponents.l1,if_pos (show (i:Int) < (ss.length:Int) by omega),if_pos (show (0:Int)≤(i:Int) by omega),if_pos h1,if_pos (show (rd_T73 ss i).f0 < (rows.length:Int) by omega),grow]
   refine inner rows i _ _ _ (by omega) ra rb (by omega) (by omega) ?_ (rd_L4 rows (rd_T73 ss i).f0).length 0 [] (by omega) (by omega) (by have:=ra.1;simp;omega) (by rw [List.nil_append];rfl)
   rw [w64 (by omega) (by omega)]
   exact ih (i+1) _ (by omega) (h.snoc (addRow_ok n _ _ ra rb))
 have first_:∀ (d i:Nat),i+d=n→Ev (fun k=>impl_Plan_exponents.l0 k (base0 n i) n i n ss os) (exps n ss):=by
  intro d
  induction d with
  | zero=>
   intro i hd
   obtain rfl:i=n:=by omega
   refine ev_shift ?_
   simp only [impl_Plan_exponents.l0,if_neg (show ¬ (i:Int) < (i:Int) by omega)]
   exact second ss.length 0 _ (by omega) (base0_ok i i)
  | succ d ih=>
   intro i hd
   refine ev_shift ?_
   simp only [impl_Plan_exponents.l0,if_pos (show (i:Int) < (n:Int) by omega),if_pos (show (0:Int)≤(n:Int) by omega),Int.toNat_natCast,if_pos (show n≤35184372088832 by omega),Option.bind_some,if_pos (show (0:Int)≤(i:Int) by omega),List.length_replicate,base0_length,if_pos (show i < 5864062014805 by omega),w64 (show -9223372036854775808≤(i:Int)+1 by omega) (by omega)]
   have:=ih (i+1) (by omega)
   rw [base0_succ] at this
   exact this
 exact first_ n 0 (by omega)
def goodFrom (rows:List (List Int)):Nat→Int→Bool
 | 0,_=>true
 | d+1,i=>if allFrom (rd_L4 rows i) 0 1000000 (rd_L4 rows i).length 0=true then goodFrom rows d (i+1) else false
def planOk (n:Int) (ss:List (S73)) (os:List Int):Bool:=impl_IsPlan.formed n ss os && goodFrom (exps n.toNat ss) (exps n.toNat ss).length 0
theorem goodFrom_all (rows:List (List Int)):∀ (xs pre:List (List Int)),rows=pre++xs→goodFrom rows xs.length (pre.length:Int)=xs.all (fun r=>allFrom r 0 1000000 r.length 0)
 | [],pre,_=>rfl
 | x :: xs,pre,h=>by
  have e:rd_L4 rows (pre.length:Int)=x:=by
   unfold rd_L4
   rw [Int.toNat_natCast,h]
   simp [List.getD_eq_getElem?_getD]
  have:=goodFrom_all rows xs (pre++[x]) (by rw [h,List.append_assoc];rfl)
  rw [List.length_append] at this
  rw [List.length_cons,goodFrom,e,List.all_cons]
  cases allFrom x 0 1000000 x.length 0 with
  | true=>rw [if_pos rfl,Bool.true_and,← this];rfl
  | false=>rw [if_neg (by decide),Bool.false_and]
theorem goodFrom_eq (rows:List (List Int)):goodFrom rows rows.length 0=rows.all (fun r=>allFrom r 0 1000000 r.length 0):=goodFrom_all rows rows [] rfl
theorem steps_order (n:Nat) (ss:List (S73)):∀ (d i:Nat),impl_IsPlan.steps n ss d i=true→∀ j,i≤j→j < i+d→0≤(rd_T73 ss j).f0∧(rd_T73 ss j).f0≤(rd_T73 ss j).f1∧(rd_T73 ss j).f1 < n+j:=by
 intro d
 induction d with
 | zero=>intro i _ j h1 h2;omega
 | succ d ih=>
  intro i h j h1 h2
  rw [impl_IsPlan.steps] at h
  by_cases k1:(rd_T73 ss i).f0 < 0
  ·rw [if_pos k1] at h;cases h
  ·rw [if_neg k1] at h
   by_cases k2:(rd_T73 ss i).f0 > (rd_T73 ss i).f1
   ·rw [if_pos k2] at h;cases h
   ·rw [if_neg k2] at h
    by_cases k3:(rd_T73 ss i).f1 ≥ (n:Int)+i
    ·rw [if_pos k3] at h;cases h
    ·rw [if_neg k3] at h
     by_cases e:j=i
     ·subst e;omega
     ·exact ih (i+1) h j (by omega) (by omega)
theorem order_of (n:Nat) (ss:List (S73)) (h:impl_IsPlan.steps n ss ss.length 0=true):InOrder n ss:=fun i hi=>steps_order n ss ss.length 0 h i (by omega) (by omega)
theorem formed_of {n:Int} {ss:List (S73)} {os:List Int} (h:impl_IsPlan.formed n ss os=true):(1≤n∧n≤6)∧ss.length≤40∧os.length≤6∧impl_IsPlan.steps n ss ss.length 0=true∧anyIx (impl_IsPlan.outs n ss os) os.length 0=false:=by
 unfold impl_IsPlan.formed at h
 by_cases c1:1≤n∧n≤6
 ·rw [if_pos c1] at h
  by_cases c2:ss.length≤40
  ·rw [if_pos c2] at h
   by_cases c3:os.length≤6
   ·rw [if_pos c3] at h
    by_cases c4:impl_IsPlan.steps n ss ss.length 0=true
    ·rw [if_pos c4] at h
     exact ⟨c1,c2,c3,c4,by simpa using h⟩
    ·rw [if_neg c4] at h;cases h
   ·rw [if_neg c3] at h;cases h
  ·rw [if_neg c2] at h;cases h
 ·rw [if_neg c1] at h;cases h
def maxFrom (xs:List Int):Nat→Int→Int→Int
 | 0,_,m=>m
 | d+1,i,m=>maxFrom xs d (i+1) (mx m (rd xs i))
theorem max_ev (xs:List Int) (h0:0 < xs.length) (hl:xs.length≤1000000):Ev (fun k=>slices_Max_int_int.f k xs) (maxFrom xs (xs.length - 1) 1 (rd xs 0)):=by
 have loop:∀ (d:Nat) (i m:Int),0≤i→i+d=xs.length→Ev (fun k=>slices_Max_int_int.l0 k xs m i) (maxFrom xs d i m):=by
  intro d
  induction d with
  | zero=>
   intro i m _ hd
   refine ev_shift ?_
   simp only [slices_Max_int_int.l0,if_neg (show ¬ i < (xs.length:Int) by omega),maxFrom]
   exact Ev.now _
  | succ d ih=>
   intro i m h0 hd
   refine ev_shift ?_
   simp only [slices_Max_int_int.l0,if_pos (show i < (xs.length:Int) by omega),if_pos h0,w64 (show -9223372036854775808≤i+1 by omega) (by omega),maxFrom]
   exact ih (i+1) _ (by omega) (by omega)
 unfold slices_Max_int_int.f
 simp only [if_neg (show ¬ (xs.length:Int) < 1 by omega),if_pos (show (0:Int) < (xs.length:Int) by omega)]
 exact loop (xs.length - 1) 1 _ (by omega) (by omega)
theorem max_all (n:Nat) (xs:List Int) (hx:RowOk n xs):∀ (d:Nat) (i m:Int),decide (maxFrom xs d i m > 1000000) = !(decide (m≤1000000) && allFrom xs 0 1000000 d i)
 | 0,i,m=>by
  rw [maxFrom,allFrom,Bool.and_true]
  by_cases c:m≤1000000
  ·rw [decide_eq_true c,decide_eq_false (by omega)];rfl
  ·rw [decide_eq_false c,decide_eq_true (by omega)];rfl
 | d+1,i,m=>by
  have hr:=rd_in xs n hx i
  rw [maxFrom,max_all n xs hx d (i+1),allFrom]
  by_cases c:m≤1000000
  ·rw [decide_eq_true c]
   by_cases c2:rd xs i≤1000000
   ·rw [if_pos ⟨hr.1,c2⟩,decide_eq_true (by unfold mx;split <;> omega)]
   ·rw [if_neg (by omega),decide_eq_false (by unfold mx;split <;> omega)];rfl
  ·rw [decide_eq_false c,decide_eq_false (by unfold mx;split <;> omega)];rfl
theorem top_ev (n:Nat) (hn:1≤n) (hn6:n≤6):∀ (rows:List (List Int)),(∀ r∈rows,RowOk n r)→Ev (fun k=>impl_IsPlan.top k rows) (!(rows.all (fun r=>allFrom r 0 1000000 r.length 0)))
 | [],_=>Ev.now _
 | x :: xs,h=>by
  have hx:=h x (List.mem_cons_self ..)
  have hxl:=hx.1
  refine ev_bind (max_ev x (by omega) (by omega)) ?_
  refine ev_bind (top_ev n hn hn6 xs (fun r hr=>h r (List.mem_cons_of_mem _ hr))) ?_
  have e:decide (maxFrom x (x.length - 1) 1 (rd x 0) > 1000000) = !(allFrom x 0 1000000 x.length 0):=by
   obtain ⟨m,hm⟩ : ∃ m,x.length=m+1:=⟨x.length - 1,by omega⟩
   have hr:=rd_in x n hx 0
   rw [hm,Nat.add_sub_cancel,max_all n x hx,allFrom]
   by_cases c:rd x 0≤1000000
   ·rw [decide_eq_true c,if_pos ⟨hr.1,c⟩,Bool.true_and];rfl
   ·rw [decide_eq_false c,if_neg (by omega)];rfl
  have e2:(decide (maxFrom x (x.length - 1) 1 (rd x 0) > 1000000) || !(xs.all fun r=>allFrom r 0 1000000 r.length 0)) = !((x :: xs).all fun r=>allFrom r 0 1000000 r.length 0):=by
   rw [e,List.all_cons,Bool.not_and]
  simp only [e2]
  exact Ev.now _
theorem isPlan_ev (n:Int) (ss:List (S73)) (os:List Int):Ev (fun k=>impl_IsPlan.f k n ss os) (planOk n ss os):=by
 unfold impl_IsPlan.f planOk
 by_cases c:impl_IsPlan.formed n ss os=true
 ·obtain ⟨h1,h2,h3,h4,h5⟩:=formed_of c
  obtain ⟨m,rfl⟩:=Int.eq_ofNat_of_zero_le (show 0≤n by omega)
  have ho:=order_of m ss h4
  have hok:=exps_ok m ss ho
  simp only [c,if_true,Bool.true_and,Int.toNat_natCast]
  refine ev_bind (exponents_ev m ss os (by omega) h2 ho) ?_
  refine ev_bind (top_ev m (by omega) (by omega) _ hok.2) ?_
  rw [goodFrom_eq,Bool.not_not]
  exact Ev.now _
 ·simp only [Bool.eq_false_iff.mpr c,Bool.false_and]
  exact Ev.now _
theorem outs_all (n:Int) (ss:List (S73)) (os:List Int):∀ (d i:Nat),anyIx (impl_IsPlan.outs n ss os) d i = !(allFrom os 0 (n+ss.length - 1) d i)
 | 0,_=>rfl
 | d+1,i=>by
  have ih:=outs_all n ss os d (i+1)
  rw [anyIx,allFrom,ih]
  unfold impl_IsPlan.outs
  by_cases c:0≤rd os i∧rd os i≤n+ss.length - 1
  ·rw [if_pos c,decide_eq_true c.1,decide_eq_true c.2];rfl
  ·rw [if_neg c]
   have e:(decide (0≤rd os (i:Int)) && decide (rd os (i:Int)≤n+ss.length - 1))=false:=by rw [Bool.and_eq_false_iff,decide_eq_false_iff_not,decide_eq_false_iff_not];omega
   rw [e];rfl
theorem planOk_of {n:Int} {ss:List (S73)} {os:List Int} (h:planOk n ss os=true) : ∃ m:Nat,n=m∧1≤m∧m≤6∧ss.length≤40∧os.length≤6∧InOrder m ss∧(∀ j:Nat,j < os.length→0≤rd os j∧rd os j≤(m:Int)+ss.length - 1)∧∀ r∈exps m ss,∀ e∈r,0≤e∧e≤1000000:=by
 unfold planOk at h
 rw [Bool.and_eq_true] at h
 obtain ⟨h1,h2,h3,h4,h5⟩:=formed_of h.1
 obtain ⟨m,rfl⟩:=Int.eq_ofNat_of_zero_le (show 0≤n by omega)
 have all_rd:∀ (xs:List Int) (a b:Int) (d i:Nat),allFrom xs a b d i=true→∀ j:Nat,i≤j→j < i+d→a≤rd xs j∧rd xs j≤b:=by
  intro xs a b d
  induction d with
  | zero=>intro i _ j h1 h2;omega
  | succ d ih=>
   intro i h j h1 h2
   rw [allFrom] at h
   by_cases c:a≤rd xs i∧rd xs i≤b
   ·rw [if_pos c] at h
    by_cases e:j=i
    ·subst e;exact c
    ·exact ih (i+1) h j (by omega) (by omega)
   ·rw [if_neg c] at h;cases h
 refine ⟨m,rfl,by omega,by omega,h2,h3,order_of m ss h4,fun j hj=>?_,fun r hr e he=>?_⟩
 ·rw [outs_all,Bool.not_eq_false'] at h5
  exact all_rd os _ _ os.length 0 h5 j (by omega) (by omega)
 ·have h6:=h.2
  rw [Int.toNat_natCast,goodFrom_eq] at h6
  have h7:=List.all_eq_true.1 h6 r hr
  obtain ⟨j,hj,rfl⟩:=List.mem_iff_getElem.1 he
  have:=all_rd r 0 1000000 r.length 0 h7 j (by omega) (by omega)
  rw [rd_nat] at this
  simpa [List.getD_eq_getElem?_getD,hj] using this
theorem inner_mem (xs:List Int) (k j:Int) (hj:0≤j):∀ (d:Nat) (i:Int),0≤i→i+d=j+1→∀ s∈inner xs k j d i,0≤s.f0∧s.f0≤j∧s.f1=j∧wrap64 (rd xs s.f0+rd xs s.f1)=rd xs k
 | 0,_,_,_,s,h=>by cases h
 | d+1,i,h0,hd,s,h=>by
  unfold inner at h
  split at h
  ·rename_i c
   rcases List.mem_cons.1 h with rfl|h
   ·exact ⟨h0,by show i≤j;omega,rfl,c⟩
   ·exact inner_mem xs k j hj d (i+1) (by omega) (by omega) s h
  ·exact inner_mem xs k j hj d (i+1) (by omega) (by omega) s h
theorem outer_mem (xs:List Int) (k:Int):∀ (d:Nat) (j:Int),0≤j→j+d=k→∀ s∈outer xs k d j,0≤s.f0∧s.f0≤s.f1∧s.f1 < k∧wrap64 (rd xs s.f0+rd xs s.f1)=rd xs k
 | 0,_,_,_,s,h=>by cases h
 | d+1,j,h0,hd,s,h=>by
  unfold outer at h
  rcases List.mem_append.1 h with h|h
  ·obtain ⟨a,b,c,e⟩:=inner_mem xs k j h0 (j+1).toNat 0 (by omega) (by omega) s h
   exact ⟨a,by omega,by omega,e⟩
  ·exact outer_mem xs k d (j+1) (by omega) (by omega) s h
theorem lastOf_mem (ss:List St) (h:ss.length≠0):lastOf ss∈ss:=by
 unfold lastOf rdS rd_T73
 have e:((ss.length:Int) - 1).toNat < ss.length:=by omega
 generalize ((ss.length:Int) - 1).toNat=q at e ⊢
 rw [show ss.getD q z73=ss[q] by simp [List.getD,e]]
 exact List.getElem_mem e
theorem stepsFrom_get (xs:List Int):∀ (d:Nat) (k:Int) (j:Nat),j < d→rdS (stepsFrom xs d k) (j:Int)=lastOf (sumsOf xs (k+j))
 | 0,_,_,h=>absurd h (Nat.not_lt_zero _)
 | d+1,k,0,_=>by
  rw [rdS_nat,stepsFrom,show k+((0:Nat):Int)=k by omega];rfl
 | d+1,k,j+1,h=>by
  have:=stepsFrom_get xs d (k+1) j (by omega)
  rw [rdS_nat] at this
  rw [rdS_nat,stepsFrom,show k+((j+1:Nat):Int)=k+1+(j:Int) by omega,← this]
  rfl
theorem implFrom_at (xs:List Int):∀ (d:Nat) (k:Int),implFrom xs d k=true→∀ j:Nat,j < d→(sumsOf xs (k+j)).length≠0∧rd xs (k+j)≤1000000∧rd xs (k+j - 1) < rd xs (k+j)
 | 0,_,_,_,h=>absurd h (Nat.not_lt_zero _)
 | d+1,k,hi,0,_=>by
  obtain ⟨a,_,c,e⟩:=implFrom_head xs d k hi
  rw [show k+((0:Nat):Int)=k by omega]
  exact ⟨a,e,c⟩
 | d+1,k,hi,j+1,h=>by
  obtain ⟨_,b,_,_⟩:=implFrom_head xs d k hi
  have:=implFrom_at xs d (k+1) b j (by omega)
  rw [show k+((j+1:Nat):Int)=k+1+(j:Int) by omega]
  exact this
theorem stepOf_fact (xs:List Int) (h:chain xs=true) (j:Nat) (hj:j < xs.length - 1):0≤(rdS (stepsOf xs) j).f0∧(rdS (stepsOf xs) j).f0≤(rdS (stepsOf xs) j).f1∧(rdS (stepsOf xs) j).f1 < 1+(j:Int)∧wrap64 (rd xs (rdS (stepsOf xs) j).f0+rd xs (rdS (stepsOf xs) j).f1)=rd xs (1+(j:Int)):=by
 obtain ⟨h1,h2,h3,h4⟩:=chain_from xs h
 have hs:=(implFrom_at xs _ _ h4 j hj).1
 unfold stepsOf
 rw [stepsFrom_get xs _ _ j hj]
 exact outer_mem xs (1+(j:Int)) (1+(j:Int)).toNat 0 (by omega) (by omega) _ (lastOf_mem _ hs)
theorem chain_le (xs:List Int) (h:chain xs=true) (j:Nat) (hj:j < xs.length):1≤rd xs j∧rd xs j≤1000000:=by
 obtain ⟨h1,h2,h3,h4⟩:=chain_from xs h
 induction j with
 | zero=>rw [show ((0:Nat):Int)=0 by rfl,h3];omega
 | succ j ih=>
  have i:=ih (by omega)
  obtain ⟨_,b,c⟩:=implFrom_at xs _ _ h4 j (by omega)
  rw [show (1:Int)+(j:Int) - 1=(j:Int) by omega] at c
  rw [show ((j+1:Nat):Int)=1+(j:Int) by omega]
  omega
theorem chain_order (xs:List Int) (h:chain xs=true):InOrder 1 (stepsOf xs):=by
 intro i hi
 unfold stepsOf at hi
 rw [stepsFrom_length] at hi
 obtain ⟨a,b,c,_⟩:=stepOf_fact xs h i hi
 exact ⟨a,b,c⟩
theorem chain_exps (xs:List Int) (h:chain xs=true):exps 1 (stepsOf xs)=xs.map (fun c=>[c]):=by
 obtain ⟨h1,h2,h3,h4⟩:=chain_from xs h
 have hsl:(stepsOf xs).length=xs.length - 1:=by unfold stepsOf;rw [stepsFrom_length]
 have rdm:∀ (n:Nat) (a:Int),0≤a→a < n→n≤xs.length→rd_L4 ((xs.take n).map (fun c=>[c])) a=[rd xs a]:=by
  intro n a a0 a1 hn
  obtain ⟨m,rfl⟩:=Int.eq_ofNat_of_zero_le a0
  unfold rd_L4 rd
  rw [Int.toNat_natCast]
  simp only [List.getD_eq_getElem?_getD,List.getElem?_map,List.getElem?_take]
  rw [if_pos (by omega),List.getElem?_eq_getElem (by omega)]
  rfl
 have loop:∀ (d i:Nat),i+d=xs.length - 1→grow (stepsOf xs) d i ((xs.take (i+1)).map (fun c=>[c]))=xs.map (fun c=>[c]):=by
  intro d
  induction d with
  | zero=>
   intro i hd
   rw [grow,List.take_of_length_le (by omega)]
  | succ d ih=>
   intro i hd
   obtain ⟨a,b,c,e⟩:=stepOf_fact xs h i (by omega)
   have hle:=chain_le xs h (i+1) (by omega)
   rw [show ((i+1:Nat):Int)=1+(i:Int) by omega] at hle
   rw [grow,rdm (i+1) _ a (show (rdS (stepsOf xs) i).f0 < ((i+1:Nat):Int) by omega) (by omega),rdm (i+1) _ (show 0≤(rdS (stepsOf xs) i).f1 by omega) (show (rdS (stepsOf xs) i).f1 < ((i+1:Nat):Int) by omega) (by omega)]
   have e2:addRow [rd xs (rdS (stepsOf xs) i).f0] [rd xs (rdS (stepsOf xs) i).f1]=[rd xs (1+(i:Int))]:=by
    show [cap2 (wrap64 (rd xs (rdS (stepsOf xs) i).f0+rd xs (rdS (stepsOf xs) i).f1))]=_
    rw [e]
    unfold cap2
    rw [if_pos (by omega)]
   rw [e2]
   have e3:(xs.take (i+1)).map (fun c=>[c])++[[rd xs (1+(i:Int))]]=(xs.take (i+1+1)).map (fun c=>[c]):=by
    rw [List.take_succ_eq_append_getElem (show i+1 < xs.length by omega),List.map_append]
    have:rd xs (1+(i:Int))=xs[i+1]:=by
     rw [show (1:Int)+(i:Int)=((i+1:Nat):Int) by omega,rd_nat]
     simp [List.getD,show i+1 < xs.length by omega]
    rw [this]
    rfl
   rw [e3]
   exact ih (i+1) (by omega)
 unfold exps
 rw [hsl]
 have e0:base0 1 1=(xs.take (0+1)).map (fun c=>[c]):=by
  obtain ⟨x,t,rfl⟩ : ∃ x t,xs=x :: t:=by cases xs with
   | nil=>simp at h1
   | cons x t=>exact ⟨x,t,rfl⟩
  have:x=1:=h3
  rw [this]
  rfl
 rw [e0]
 exact loop (xs.length - 1) 0 (by omega)
theorem steps_true (n:Nat) (ss:List St):∀ (d i:Nat),(∀ j:Nat,i≤j→j < i+d→0≤(rdS ss j).f0∧(rdS ss j).f0≤(rdS ss j).f1∧(rdS ss j).f1 < n+j)→impl_IsPlan.steps n ss d i=true
 | 0,_,_=>rfl
 | d+1,i,h=>by
  obtain ⟨a,b,c⟩:=h i (by omega) (by omega)
  rw [impl_IsPlan.steps,if_neg (by show ¬ (rdS ss i).f0 < 0;omega),if_neg (by show ¬ (rdS ss i).f0 > (rdS ss i).f1;omega),if_neg (by show ¬ (rdS ss i).f1 ≥ (n:Int)+i;omega)]
  exact steps_true n ss d (i+1) (fun j h1 h2=>h j (by omega) (by omega))
def hasFrom (ys:List Int) (x:Int):Nat→Int→Bool
 | 0,_=>false
 | d+1,i=>if rd ys i=x then true else hasFrom ys x d (i+1)
def has (ys:List Int) (x:Int):Bool:=hasFrom ys x ys.length 0
theorem hasFrom_at (ys:List Int) (x:Int):∀ (d:Nat) (i:Int),hasFrom ys x d i=true→∃ j,i≤j∧j < i+d∧rd ys j=x
 | 0,_,h=>by cases h
 | d+1,i,h=>by
  unfold hasFrom at h
  split at h
  ·rename_i c;exact ⟨i,by omega,by omega,c⟩
  ·obtain ⟨j,h1,h2,h3⟩:=hasFrom_at ys x d (i+1) h
   exact ⟨j,by omega,by omega,h3⟩
theorem hasFrom_mk (ys:List Int) (x:Int):∀ (d:Nat) (i j:Int),i≤j→j < i+d→rd ys j=x→hasFrom ys x d i=true
 | 0,_,_,_,_,_=>by omega
 | d+1,i,j,h1,h2,h3=>by
  unfold hasFrom
  split
  ·rfl
  ·rename_i c
   by_cases e:i=j
   ·subst e;exact absurd h3 c
   ·exact hasFrom_mk ys x d (i+1) j (by omega) (by omega) h3
theorem has_iff (ys:List Int) (x:Int):has ys x=true↔∃ j:Int,0≤j∧j < ys.length∧rd ys j=x:=by
 constructor
 ·intro h
  obtain ⟨j,h1,h2,h3⟩:=hasFrom_at ys x ys.length 0 h
  exact ⟨j,h1,by omega,h3⟩
 ·rintro ⟨j,h1,h2,h3⟩
  exact hasFrom_mk ys x ys.length 0 j h1 (by omega) h3
theorem l1Has_ev (ys:List Int) (x:Int) (hl:ys.length≤100000000):Ev (fun f=>spec_l1Has.f f ys x) (has ys x):=by
 have loop:∀ (d:Nat) (i:Int),0≤i→i+d=ys.length→Ev (fun f=>spec_l1Has.l0 f x ys ys.length i) (hasFrom ys x d i):=by
  intro d
  induction d with
  | zero=>
   intro i h0 hd
   refine ev_shift ?_
   simp only [spec_l1Has.l0,if_neg (show ¬ i < (ys.length:Int) by omega),hasFrom]
   exact Ev.now _
  | succ d ih=>
   intro i h0 hd
   have hn:=ih (i+1) (by omega) (by omega)
   refine ev_shift ?_
   simp only [spec_l1Has.l0,if_pos (show i < (ys.length:Int) by omega),if_pos h0,w64 (show -9223372036854775808≤i+1 by omega) (by omega)]
   unfold hasFrom
   by_cases c:rd ys i=x
   ·rw [if_pos c];simp only [if_pos c];exact Ev.now _
   ·rw [if_neg c];simp only [if_neg c];exact hn
 exact loop ys.length 0 (by omega) (by omega)
theorem l1Own_eq (xs:List Int) (h:xs.length < 17592186044416):spec_l1Own.f xs=some xs:=by
 unfold spec_l1Own.f
 simp only [Option.bind_some,List.length_nil,Nat.zero_add,if_pos h,List.nil_append]
theorem clone_eq (xs:List Int) (h:xs.length < 17592186044416):slices_Clone_int_int.f xs=some xs:=by
 unfold slices_Clone_int_int.f
 rw [if_pos h]
open Go.Proofs.YtdcdaoancmpbeaaB in
theorem down_cons (n:Nat):down (n+1) (n+1)=n :: down n n:=by
 unfold down
 rw [List.range_succ_eq_map,List.map_cons,List.map_map]
 have e:(fun j=>n+1 - 1 - j) ∘ Nat.succ=fun j=>n - 1 - j:=by
  funext j
  show n+1 - 1 - (j+1)=n - 1 - j
  omega
 rw [e]
 simp
def bitAt (U:List Bool) (v:Nat):Bool:=U.getD v false
theorem bit_set (U:List Bool) (i v:Nat) (h:i < U.length):bitAt (U.set i true) v=true↔v=i∨bitAt U v=true:=by
 unfold bitAt
 simp only [List.getD_eq_getElem?_getD,List.getElem?_set]
 by_cases e:i=v
 ·subst e;simp [h]
 ·rw [if_neg e];simp;intro h2;exact absurd h2.symm e
def backTo (m:Nat) (ss:List St):Nat→List Bool→List Bool
 | 0,U=>U
 | d+1,U=>backTo m ss d (impl_Plan_used.step m ss U d)
open Go.Proofs.YtdcdaoancmpbeaaB in
theorem down_back (m:Nat) (ss:List St):∀ (n:Nat) (U:List Bool),(down n n).foldl (impl_Plan_used.step m ss) U=backTo m ss n U
 | 0,_=>rfl
 | n+1,U=>by rw [down_cons,List.foldl_cons,down_back m ss n];rfl
def pick (U:List Bool) (m:Nat):Nat→Nat→List Int
 | 0,_=>[]
 | d+1,a=>if bitAt U (m+a)=true then (a:Int) :: pick U m d (a+1) else pick U m d (a+1)
theorem pick_same (U U' : List Bool) (m:Nat):∀ (d a:Nat),(∀ j,a≤j→j < a+d→bitAt U (m+j)=bitAt U' (m+j))→pick U m d a=pick U' m d a
 | 0,_,_=>rfl
 | d+1,a,h=>by
  rw [pick,pick,h a (by omega) (by omega),pick_same U U' m d (a+1) (fun j h1 h2=>h j (by omega) (by omega))]
theorem pick_length (U:List Bool) (m:Nat):∀ (d a:Nat),(pick U m d a).length≤d
 | 0,_=>Nat.le_refl _
 | d+1,a=>by
  have:=pick_length U m d (a+1)
  rw [pick]
  split
  ·rw [List.length_cons];omega
  ·omega
def spTo (m:Nat) (ss:List St):Nat→List Int→List Int→List Int
 | 0,_,out=>out
 | d+1,nd,out=>if has nd (m+d)=true then spTo m ss d (nd++[(rdS ss d).f0,(rdS ss d).f1]) ((d:Int) :: out) else spTo m ss d nd out
theorem has_mem (ys:List Int) (x:Int):has ys x=true↔x∈ys:=by
 rw [has_iff]
 constructor
 ·rintro ⟨j,h1,h2,rfl⟩
  obtain ⟨i,rfl⟩:=Int.eq_ofNat_of_zero_le h1
  rw [rd_nat,show ys.getD i 0=ys[i]'(by omega) by simp [List.getD,show i < ys.length by omega]]
  exact List.getElem_mem _
 ·intro h
  obtain ⟨i,hi,rfl⟩:=List.mem_iff_getElem.1 h
  exact ⟨i,by omega,by omega,by rw [rd_nat];simp [List.getD,hi]⟩
theorem step_length (m:Nat) (ss:List St) (U:List Bool) (x:Nat):(impl_Plan_used.step m ss U x).length=U.length:=impl_Plan_used.step_length m ss U x
theorem sp_im (m:Nat) (ss:List St) (ho:InOrder m ss):∀ (d:Nat) (U:List Bool) (nd out:List Int),d≤ss.length→U.length=m+ss.length→(∀ v:Nat,v < m+ss.length→(bitAt U v=true↔(v:Int)∈nd))→out=pick U m (ss.length - d) d →
  spTo m ss d nd out=pick (backTo m ss d U) m ss.length 0:=by
 intro d
 induction d with
 | zero=>intro U nd out _ _ _ h;rw [spTo,backTo,h];rfl
 | succ d ih=>
  intro U nd out hd hl hv hout
  obtain ⟨o1,o2,o3⟩:=ho d (by omega)
  obtain ⟨a,ha⟩:=Int.eq_ofNat_of_zero_le o1
  obtain ⟨b,hb⟩:=Int.eq_ofNat_of_zero_le (show 0≤(rdS ss d).f1 by show 0≤(rd_T73 ss d).f1;omega)
  have ha' : (rdS ss d).f0=(a:Int):=ha
  have hal:a < m+d:=by omega
  have hbl:b < m+d:=by have:(rd_T73 ss d).f1=(b:Int):=hb;omega
  have hn:ss.length - d=(ss.length - (d+1))+1:=by omega
  have hm:=hv (m+d) (by omega)
  have hh:has nd ((m:Int)+d)=true↔bitAt U (m+d)=true:=by rw [has_mem,hm];rw [show ((m+d:Nat):Int)=(m:Int)+d by omega]
  have hs:impl_Plan_used.step m ss U d=if bitAt U (m+d)=true then (U.set a true).set b true else U:=by
   unfold impl_Plan_used.step
   have e1:rdOf false U ((m:Int)+d)=bitAt U (m+d):=by unfold rdOf bitAt;rw [show ((m:Int)+(d:Int)).toNat=m+d by omega]
   rw [e1,show rd_T73 ss (d:Int)=rdS ss d from rfl,ha',hb]
   rfl
  rw [spTo,backTo,hs]
  by_cases c:bitAt U (m+d)=true
  ·rw [if_pos (hh.2 c),if_pos c]
   have hset:∀ v,bitAt ((U.set a true).set b true) v=true↔v=b∨v=a∨bitAt U v=true:=fun v=>by rw [bit_set _ _ _ (by rw [List.length_set];omega),bit_set _ _ _ (by omega)]
   refine ih _ _ _ (by omega) (by simp;omega) (fun v hvl=>?_) ?_
   ·rw [hset,hv v hvl,List.mem_append,ha',hb]
    simp only [List.mem_cons,List.mem_nil_iff,or_false]
    constructor
    ·rintro (rfl|rfl|h)
     ·exact .inr (.inr rfl)
     ·exact .inr (.inl rfl)
     ·exact .inl h
    ·rintro (h|h|h)
     ·exact .inr (.inr h)
     ·exact .inr (.inl (by omega))
     ·exact .inl (by omega)
   ·rw [hn,pick,if_pos ((hset (m+d)).2 (.inr (.inr c))),hout]
    refine congrArg _ (pick_same _ _ m _ _ (fun j h1 h2=>?_))
    have:=hset (m+j)
    rw [Bool.eq_iff_iff,this]
    constructor
    ·intro h;exact .inr (.inr h)
    ·rintro (h|h|h)
     ·omega
     ·omega
     ·exact h
  ·rw [if_neg (fun h=>c (hh.1 h)),if_neg c]
   refine ih _ _ _ (by omega) hl hv ?_
   rw [hn,pick,if_neg c,hout]
theorem marks_bits (os:List Int):∀ (U:List Bool) (v:Nat),(∀ x∈os,0≤x∧x < (U.length:Int))→(bitAt (impl_Plan_used.marks os U) v=true↔(v:Int)∈os∨bitAt U v=true):=by
 induction os with
 | nil=>intro U v _;show bitAt U v=true↔_;simp
 | cons x os ih=>
  intro U v h
  have hx:=h x (List.mem_cons_self ..)
  have:=ih (U.set x.toNat true) v (fun y hy=>by rw [List.length_set];exact h y (List.mem_cons_of_mem _ hy))
  show bitAt (impl_Plan_used.marks os (U.set x.toNat true)) v=true↔_
  rw [this,bit_set _ _ _ (by omega),List.mem_cons]
  constructor
  ·rintro (h|h|h)
   ·exact .inl (.inr h)
   ·exact .inl (.inl (by omega))
   ·exact .inr h
  ·rintro ((h|h)|h)
   ·exact .inr (.inl (by omega))
   ·exact .inl h
   ·exact .inr (.inr h)
def marksOf (m:Nat) (ss:List St) (os:List Int):List Bool:=backTo m ss ss.length (impl_Plan_used.marks os (List.replicate (m+ss.length) false))
def usedOf (m:Nat) (ss:List St) (os:List Int):List Int:=pick (marksOf m ss os) m ss.length 0
theorem usedOf_length (m:Nat) (ss:List St) (os:List Int):(usedOf m ss os).length≤ss.length:=pick_length _ _ _ _
theorem backTo_length (m:Nat) (ss:List St):∀ (d:Nat) (U:List Bool),(backTo m ss d U).length=U.length
 | 0,_=>rfl
 | d+1,U=>by rw [backTo,backTo_length m ss d,step_length]
theorem marksOf_length (m:Nat) (ss:List St) (os:List Int):(marksOf m ss os).length=m+ss.length:=by unfold marksOf;rw [backTo_length,impl_Plan_used.marks_length,List.length_replicate]
theorem outs_mem {m:Nat} {ss:List St} {os:List Int} (h:∀ j:Nat,j < os.length→0≤rd os j∧rd os j≤(m:Int)+ss.length - 1):∀ x∈os,0≤x∧x < (m:Int)+ss.length:=fun x hx=>by
 obtain ⟨i,hi,rfl⟩:=List.mem_iff_getElem.1 hx
 have:=h i hi
 rw [rd_nat,show os.getD i 0=os[i] by simp [List.getD,hi]] at this
 omega
theorem used_eq (m:Nat) (ss:List St) (os:List Int) (h1:1≤m) (h2:m≤6) (h3:ss.length≤40) (h4:os.length≤6) (ho:InOrder m ss) (hos:∀ j:Nat,j < os.length→0≤rd os j∧rd os j≤(m:Int)+ss.length - 1):impl_Plan_used.f m ss os=some (marksOf m ss os):=by
 have hok:impl_Plan_used.ok m ss os=true:=by
  unfold impl_Plan_used.ok
  simp only [Bool.and_eq_true,decide_eq_true_eq,List.all_eq_true]
  refine ⟨⟨⟨⟨⟨by omega,by omega⟩,by omega⟩,by omega⟩,outs_mem hos⟩,fun s hs=>?_⟩
  obtain ⟨i,hi,rfl⟩:=List.mem_iff_getElem.1 hs
  obtain ⟨a,b,c⟩:=ho i hi
  have e:rd_T73 ss (i:Int)=ss[i]:=by unfold rd_T73;rw [Int.toNat_natCast];simp [List.getD,hi]
  rw [e] at a b c
  exact ⟨⟨⟨a,by omega⟩,by omega⟩,by omega⟩
 unfold impl_Plan_used.f marksOf
 rw [if_pos hok,down_back,show ((m:Int)+(ss.length:Int)).toNat=m+ss.length by omega]
theorem put_front (out:List Int) (x:Int) (hl:out.length≤1000) (h:∀ y∈out,x < y):Ev (fun k=>spec_l1Put.f k out x) (x :: out):=by
 unfold spec_l1Put.f
 refine ev_shift ?_
 cases out with
 | nil=>exact Ev.now _
 | cons y t=>
  have hy:=h y (List.mem_cons_self ..)
  have r0:rd (y :: t) 0=y:=rfl
  have hlt:(y :: t).length≤1000:=hl
  simp only [spec_l1Put.l0,if_pos (show (0:Int) < ((y :: t).length:Int) by rw [List.length_cons];omega),if_pos (show (0:Int)≤0 by omega),r0,if_neg (show ¬ y < x by omega),if_neg (show ¬ y=x by omega),Option.bind_some,if_pos (show (0:Int)≤((y :: t).length:Int) by omega),Int.toNat_zero,List.take_zero,List.drop_zero,List.length_nil,List.append_nil,List.nil_append,List.length_singleton]
  rw [if_pos (by omega),if_pos (by omega),if_pos (by omega)]
  exact Ev.now _
theorem plUsed_ev (m:Nat) (ss:List St) (os:List Int) (h1:1≤m) (h2:m≤6) (h3:ss.length≤40) (h4:os.length≤6) (ho:InOrder m ss) (hos:∀ j:Nat,j < os.length→0≤rd os j∧rd os j≤(m:Int)+ss.length - 1):Ev (fun k=>spec_plUsed.f k m ss os) (usedOf m ss os):=by
 have loop:∀ (d:Nat) (nd out:List Int),d≤ss.length→nd.length+2*d≤200→out.length+d≤200→(∀ y∈out,(d:Int)≤y)→Ev (fun k=>spec_plUsed.l0 k nd out ((d:Int) - 1) m ss os) (spTo m ss d nd out):=by
  intro d
  induction d with
  | zero=>
   intro nd out _ _ _ _
   refine ev_shift ?_
   simp only [spec_plUsed.l0,if_neg (show ¬ ((0:Nat):Int) - 1 ≥ 0 by omega),spTo]
   exact Ev.now _
  | succ d ih=>
   intro nd out hd hn hol hout
   refine ev_shift ?_
   have e1:((d+1:Nat):Int) - 1=(d:Int):=by omega
   simp only [spec_plUsed.l0,e1,if_pos (show (d:Int) ≥ 0 by omega),w64 (show -9223372036854775808≤(m:Int)+(d:Int) by omega) (by omega),w64 (show -9223372036854775808≤(d:Int) - 1 by omega) (by omega)]
   refine ev_bind (l1Has_ev nd _ (by omega)) ?_
   rw [spTo]
   by_cases c:has nd ((m:Int)+d)=true
   ·have el:([(rd_T73 ss (d:Int)).f0,(rd_T73 ss (d:Int)).f1]:List Int).length=2:=rfl
    simp only [c,if_true,if_pos (show (d:Int) < (ss.length:Int) by omega),Option.bind_some,el,if_pos (show nd.length+2 < 17592186044416 by omega)]
    refine ev_bind (put_front out d (by omega) (fun y hy=>by have:=hout y hy;omega)) ?_
    exact ih _ _ (by omega) (by simp;omega) (by simp;omega) (fun y hy=>by
     rcases List.mem_cons.1 hy with rfl|hy
     ·omega
     ·have:=hout y hy;omega)
   ·simp only [if_neg c]
    exact ih _ _ (by omega) (by omega) (by omega) (fun y hy=>by have:=hout y hy;omega)
 unfold spec_plUsed.f
 simp only [l1Own_eq os (by omega),Option.bind_some,w64 (show -9223372036854775808≤(ss.length:Int) - 1 by omega) (by omega)]
 have h:=loop ss.length os [] (Nat.le_refl _) (by omega) (by simp;omega) (fun y hy=>by cases hy)
 have hm:=outs_mem hos
 rw [sp_im m ss ho ss.length (impl_Plan_used.marks os (List.replicate (m+ss.length) false)) os [] (Nat.le_refl _) (by rw [impl_Plan_used.marks_length,List.length_replicate]) (fun v _=>by
  rw [marks_bits os _ v (fun x hx=>by rw [List.length_replicate];have:=hm x hx;omega)]
  have:bitAt (List.replicate (m+ss.length) false) v=false:=by
   unfold bitAt
   rw [List.getD_eq_getElem?_getD,List.getElem?_replicate]
   split <;> rfl
  rw [this];simp) (by rw [Nat.sub_self];rfl)] at h
 exact h
theorem usedLoop_ev (U:List Bool) (m:Nat) (hl:U.length≤1000):∀ (d i:Nat) (acc:List Int),m+i+d=U.length→acc.length+d≤1000→Ev (fun k=>impl_UsedSteps.l0 k acc (U.drop m) ((U.drop m).length:Int) i) (acc++pick U m d i,true):=by
 intro d
 induction d with
 | zero=>
  intro i acc hd _
  refine ev_shift ?_
  simp only [impl_UsedSteps.l0,if_neg (show ¬ (i:Int) < ((U.drop m).length:Int) by rw [List.length_drop];omega),pick,List.append_nil]
  exact Ev.now _
 | succ d ih=>
  intro i acc hd ha
  have e:rdOf false (U.drop m) (i:Int)=bitAt U (m+i):=by
   unfold rdOf bitAt
   rw [Int.toNat_natCast]
   simp only [List.getD_eq_getElem?_getD,List.getElem?_drop]
  refine ev_shift ?_
  simp only [impl_UsedSteps.l0,if_pos (show (i:Int) < ((U.drop m).length:Int) by rw [List.length_drop];omega),if_pos (show (0:Int)≤(i:Int) by omega),e,w64 (show -9223372036854775808≤(i:Int)+1 by omega) (by omega),pick]
  by_cases c:bitAt U (m+i)=true
  ·simp only [if_pos c,if_pos (show acc.length < 17592186044416 by omega)]
   have:=ih (i+1) (acc++[(i:Int)]) (by omega) (by simp;omega)
   rw [List.append_assoc,List.singleton_append] at this
   exact this
  ·simp only [if_neg c]
   exact ih (i+1) acc (by omega) (by omega)
def usedAns (n:Int) (ss:List St) (os:List Int):List Int × Bool:=if planOk n ss os=true then (usedOf n.toNat ss os,true) else ([],false)
theorem implUsed_ev (n:Int) (ss:List St) (os:List Int):Ev (fun k=>impl_UsedSteps.f k n ss os) (usedAns n ss os):=by
 unfold impl_UsedSteps.f usedAns
 refine ev_bind (isPlan_ev n ss os) ?_
 by_cases c:planOk n ss os=true
 ·obtain ⟨m,rfl,h1,h2,h3,h4,ho,hos,_⟩:=planOk_of c
  have hl:=marksOf_length m ss os
  simp only [c,if_true,used_eq m ss os h1 h2 h3 h4 ho hos,Option.bind_some,if_pos (show (0:Int)≤(m:Int) by omega),if_pos (show (m:Int)≤((marksOf m ss os).length:Int) by omega),Int.toNat_natCast]
  have:=usedLoop_ev (marksOf m ss os) m (by omega) ss.length 0 [] (by omega) (by simp;omega)
  rw [List.nil_append] at this
  exact this
 ·simp only [if_neg c];exact Ev.now _
theorem pick_add (U:List Bool) (m:Nat):∀ (a b s:Nat),pick U m (a+b) s=pick U m a s++pick U m b (s+a)
 | 0,b,s=>by rw [Nat.zero_add];rfl
 | a+1,b,s=>by
  rw [show a+1+b=(a+b)+1 by omega,pick,pick,pick_add U m a b (s+1),show s+1+a=s+(a+1) by omega]
  split
  ·rfl
  ·rfl
theorem pick_succ (U:List Bool) (m i:Nat):pick U m (i+1) 0=pick U m i 0++(if bitAt U (m+i)=true then [(i:Int)] else []):=by
 rw [pick_add,Nat.zero_add,pick]
 rfl
theorem pick_mem (U:List Bool) (m:Nat):∀ (d a:Nat),∀ x∈pick U m d a,∃ i:Nat,x=i∧a≤i∧i < a+d∧bitAt U (m+i)=true
 | 0,_,x,h=>by cases h
 | d+1,a,x,h=>by
  rw [pick] at h
  split at h
  ·rename_i c
   rcases List.mem_cons.1 h with rfl|h
   ·exact ⟨a,rfl,by omega,by omega,c⟩
   ·obtain ⟨i,e,h1,h2,h3⟩:=pick_mem U m d (a+1) x h
    exact ⟨i,e,by omega,by omega,h3⟩
  ·obtain ⟨i,e,h1,h2,h3⟩:=pick_mem U m d (a+1) x h
   exact ⟨i,e,by omega,by omega,h3⟩
def cnt (U:List Bool) (m i:Nat):Nat:=(pick U m i 0).length
theorem cnt_le (U:List Bool) (m i:Nat):cnt U m i≤i:=pick_length U m i 0
def num (U:List Bool) (m:Nat) (v:Int):Int:=if v < m then v else (m:Int)+cnt U m (v - m).toNat
def stepAt (U:List Bool) (m:Nat) (ss:List St) (i:Int):St:=⟨mn (num U m (rdS ss i).f0) (num U m (rdS ss i).f1),mx (num U m (rdS ss i).f0) (num U m (rdS ss i).f1)⟩
def tSteps (m:Nat) (ss:List St) (os:List Int):List St:=(usedOf m ss os).map (stepAt (marksOf m ss os) m ss)
def tOuts (m:Nat) (ss:List St) (os:List Int):List Int:=os.map (num (marksOf m ss os) m)
def firstN (m:Nat):List Int:=(List.range m).map (fun j:Nat=>(j:Int))
theorem firstN_succ (m:Nat):firstN (m+1)=firstN m++[(m:Int)]:=by unfold firstN;simp [List.range_succ]
theorem firstN_length (m:Nat):(firstN m).length=m:=by unfold firstN;simp
theorem firsts_ev (m:Nat) (hm:m≤1000000):Ev (fun k=>impl_firsts.f k m) (firstN m):=by
 have loop:∀ (d i:Nat),i+d=m→Ev (fun k=>impl_firsts.l0 k (firstN i) m i) (firstN m):=by
  intro d
  induction d with
  | zero=>
   intro i hd
   obtain rfl:i=m:=by omega
   refine ev_shift ?_
   simp only [impl_firsts.l0,if_neg (show ¬ (i:Int) < (i:Int) by omega)]
   exact Ev.now _
  | succ d ih=>
   intro i hd
   refine ev_shift ?_
   simp only [impl_firsts.l0,if_pos (show (i:Int) < (m:Int) by omega),firstN_length,if_pos (show i < 17592186044416 by omega),w64 (show -9223372036854775808≤(i:Int)+1 by omega) (by omega)]
   rw [← firstN_succ]
   exact ih (i+1) (by omega)
 exact loop m 0 (by omega)
theorem renamed_ev (xs places:List Int) (hl:xs.length≤1000000) (h:∀ x∈xs,0≤x∧x < places.length):Ev (fun k=>impl_renamed.f k xs places) (xs.map (rd places)):=by
 have loop:∀ (d i:Nat),i+d=xs.length→Ev (fun k=>impl_renamed.l0 k places ((xs.take i).map (rd places)) xs xs.length i) (xs.map (rd places)):=by
  intro d
  induction d with
  | zero=>
   intro i hd
   refine ev_shift ?_
   simp only [impl_renamed.l0,if_neg (show ¬ (i:Int) < (xs.length:Int) by omega)]
   rw [List.take_of_length_le (by omega)]
   exact Ev.now _
  | succ d ih=>
   intro i hd
   have e:rd xs (i:Int)=xs[i]'(by omega):=by rw [rd_nat];simp [List.getD,show i < xs.length by omega]
   have hx:=h _ (List.getElem_mem (show i < xs.length by omega))
   rw [← e] at hx
   refine ev_shift ?_
   simp only [impl_renamed.l0,if_pos (show (i:Int) < (xs.length:Int) by omega),if_pos (show (0:Int)≤(i:Int) by omega),if_pos hx.1,if_pos hx.2,if_pos (show ((xs.take i).map (rd places)).length < 17592186044416 by simp;omega),w64 (show -9223372036854775808≤(i:Int)+1 by omega) (by omega)]
   have:=ih (i+1) (by omega)
   rw [List.take_succ_eq_append_getElem (by omega),List.map_append,← e] at this
   exact this
 exact loop xs.length 0 (by omega)
def placesTo (U:List Bool) (m i:Nat):List Int:=firstN m++(List.range i).map (fun j:Nat=>(m:Int)+cnt U m j)
theorem placesTo_length (U:List Bool) (m i:Nat):(placesTo U m i).length=m+i:=by unfold placesTo firstN;simp
theorem placesTo_succ (U:List Bool) (m i:Nat):placesTo U m (i+1)=placesTo U m i++[(m:Int)+cnt U m i]:=by unfold placesTo;simp [List.range_succ]
theorem placesTo_rd (U:List Bool) (m i:Nat) (v:Int) (h0:0≤v) (h1:v < m+i):rd (placesTo U m i) v=num U m v:=by
 obtain ⟨n,rfl⟩:=Int.eq_ofNat_of_zero_le h0
 rw [rd_nat,List.getD_eq_getElem?_getD]
 unfold placesTo num
 by_cases c:n < m
 ·rw [List.getElem?_append_left (by rw [firstN_length];exact c),if_pos (by omega)]
  unfold firstN
  simp [c]
 ·rw [List.getElem?_append_right (by rw [firstN_length];omega),if_neg (by omega),firstN_length,show ((n:Int) - m).toNat=n - m by omega]
  simp [show n - m < i by omega]
theorem trimmed_ev (m:Nat) (ss:List St) (os:List Int) (h1:1≤m) (h2:m≤6) (h3:ss.length≤40) (h4:os.length≤6) (ho:InOrder m ss) (hos:∀ j:Nat,j < os.length→0≤rd os j∧rd os j≤(m:Int)+ss.length - 1):Ev (fun k=>impl_Plan_trimmed.f k m ss os) ((m:Int),tSteps m ss os,tOuts m ss os):=by
 unfold impl_Plan_trimmed.f
 simp only [used_eq m ss os h1 h2 h3 h4 ho hos,Option.bind_some]
 refine ev_bind (firsts_ev m (by omega)) ?_
 have hUl:=marksOf_length m ss os
 have hm:=outs_mem hos
 obtain ⟨U,hU⟩ : ∃ U,U=marksOf m ss os:=⟨_,rfl⟩
 unfold tSteps tOuts usedOf
 rw [← hU] at hUl ⊢
 have loop:∀ (d i:Nat),i+d=ss.length→Ev (fun k=>impl_Plan_trimmed.l0 k U (placesTo U m i) ss ss.length i m ss os m ((pick U m i 0).map (stepAt U m ss))) ((m:Int),(pick U m ss.length 0).map (stepAt U m ss),os.map (num U m)):=by
  intro d
  induction d with
  | zero=>
   intro i hd
   obtain rfl:i=ss.length:=by omega
   refine ev_shift ?_
   simp only [impl_Plan_trimmed.l0,if_neg (show ¬ (ss.length:Int) < (ss.length:Int) by omega)]
   refine ev_bind (renamed_ev os _ (by omega) (fun x hx=>by rw [placesTo_length];have:=hm x hx;omega)) ?_
   have e:os.map (rd (placesTo U m ss.length))=os.map (num U m):=List.map_congr_left fun x hx=>by
    have:=hm x hx
    exact placesTo_rd U m ss.length x this.1 (by omega)
   rw [e]
   exact Ev.now _
  | succ d ih=>
   intro i hd
   obtain ⟨k1,k2,k3⟩:=ho i (by omega)
   have w1:wrap64 ((m:Int)+(i:Int))=(m:Int)+i:=w64 (by omega) (by omega)
   have w2:wrap64 ((i:Int)+1)=(i:Int)+1:=w64 (by omega) (by omega)
   have p1:(i:Int) < (ss.length:Int):=by omega
   have p2:(0:Int)≤(i:Int):=by omega
   have p3:(0:Int)≤(m:Int)+(i:Int):=by omega
   have p4:(m:Int)+(i:Int) < (U.length:Int):=by omega
   have p5:(0:Int)≤(rd_T73 ss i).f1:=by omega
   have p6:(rd_T73 ss i).f0 < ((m+(i+1):Nat):Int):=by omega
   have p7:(rd_T73 ss i).f1 < ((m+(i+1):Nat):Int):=by omega
   have p8:(rd_T73 ss i).f0 < (m:Int)+((i+1:Nat):Int):=by omega
   have p9:(rd_T73 ss i).f1 < (m:Int)+((i+1:Nat):Int):=by omega
   have hb:rdOf false U ((m:Int)+(i:Int))=bitAt U (m+i):=by unfold rdOf bitAt;rw [show ((m:Int)+(i:Int)).toNat=m+i by omega]
   have hn:=ih (i+1) (by omega)
   have q1:(placesTo U m i).length < 17592186044416:=by rw [placesTo_length];omega
   have hw:wrap64 ((m:Int)+(cnt U m i:Int))=(m:Int)+cnt U m i:=by
    have:=cnt_le U m i
    generalize cnt U m i=c at this ⊢
    exact w64 (by omega) (by omega)
   have q2:(List.map (stepAt U m ss) (pick U m i 0)).length < 8796093022208:=by
    rw [List.length_map]
    have:=cnt_le U m i
    have e:(pick U m i 0).length=cnt U m i:=rfl
    rw [e]
    generalize cnt U m i=c at this ⊢
    omega
   rw [pick_succ] at hn
   refine ev_shift ?_
   simp only [impl_Plan_trimmed.l0,if_pos p1,if_pos p2]
   simp only [impl_Plan_many.f]
   simp only [if_pos q1,if_pos q2]
   simp -implicitDefEqProofs only [Option.bind_some,List.length_map]
   have el:((pick U m i 0).length:Int)=(cnt U m i:Int):=rfl
   simp -implicitDefEqProofs only [el,hw]
   simp -implicitDefEqProofs only [w1,w2,if_pos p3,if_pos p4,hb]
   rw [← placesTo_succ]
   by_cases c:bitAt U (m+i)=true
   ·rw [if_pos c,List.map_append] at hn
    have ra:=placesTo_rd U m (i+1) (rdS ss i).f0 k1 p8
    have rb:=placesTo_rd U m (i+1) (rdS ss i).f1 p5 p9
    simp -implicitDefEqProofs only [if_pos c,if_pos k1,placesTo_length,if_pos p6,if_pos p5,if_pos p7,impl_step.f,Option.bind_some]
    have es:(⟨mn (rd (placesTo U m (i+1)) (rd_T73 ss (i:Int)).f0) (rd (placesTo U m (i+1)) (rd_T73 ss (i:Int)).f1),mx (rd (placesTo U m (i+1)) (rd_T73 ss (i:Int)).f0) (rd (placesTo U m (i+1)) (rd_T73 ss (i:Int)).f1)⟩ : St)=stepAt U m ss (i:Int):=by
     unfold stepAt
     rw [show rd_T73 ss (i:Int)=rdS ss i from rfl,ra,rb]
    rw [es]
    exact hn
   ·rw [if_neg c,List.append_nil] at hn
    simp -implicitDefEqProofs only [if_neg c]
    exact hn
 have:=loop ss.length 0 (by omega)
 have e0:placesTo U m 0=firstN m:=by unfold placesTo;simp
 rw [e0] at this
 exact this
theorem step_bits (m:Nat) (ss:List St) (ho:InOrder m ss) (U:List Bool) (hl:U.length=m+ss.length) (d:Nat) (hd:d < ss.length) (v:Nat):bitAt (impl_Plan_used.step m ss U d) v=true↔(bitAt U (m+d)=true∧((v:Int)=(rdS ss d).f0∨(v:Int)=(rdS ss d).f1))∨bitAt U v=true:=by
 obtain ⟨o1,o2,o3⟩:=ho d hd
 have q1:0≤(rdS ss d).f0:=o1
 have q2:(rdS ss d).f0≤(rdS ss d).f1:=o2
 have q3:(rdS ss d).f1 < (m:Int)+d:=o3
 have e1:rdOf false U ((m:Int)+(d:Int))=bitAt U (m+d):=by unfold rdOf bitAt;rw [show ((m:Int)+(d:Int)).toNat=m+d by omega]
 unfold impl_Plan_used.step
 rw [e1,show rd_T73 ss (d:Int)=rdS ss d from rfl]
 by_cases c:bitAt U (m+d)=true
 ·rw [if_pos c,bit_set _ _ _ (by rw [List.length_set];omega),bit_set _ _ _ (by omega)]
  constructor
  ·rintro (h|h|h)
   ·exact .inl ⟨c,.inr (by omega)⟩
   ·exact .inl ⟨c,.inl (by omega)⟩
   ·exact .inr h
  ·rintro (⟨_,h|h⟩|h)
   ·exact .inr (.inl (by omega))
   ·exact .inl (by omega)
   ·exact .inr (.inr h)
 ·rw [if_neg c]
  constructor
  ·exact .inr
  ·rintro (⟨h,_⟩|h)
   ·exact absurd h c
   ·exact h
theorem back_mono (m:Nat) (ss:List St) (ho:InOrder m ss):∀ (d:Nat) (U:List Bool),d≤ss.length→U.length=m+ss.length→∀ v,bitAt U v=true→bitAt (backTo m ss d U) v=true
 | 0,_,_,_,_,h=>h
 | d+1,U,hd,hl,v,h=>back_mono m ss ho d _ (by omega) (by rw [step_length];exact hl) v ((step_bits m ss ho U hl d (by omega) v).2 (.inr h))
theorem back_hi (m:Nat) (ss:List St) (ho:InOrder m ss):∀ (d:Nat) (U:List Bool),d≤ss.length→U.length=m+ss.length→∀ v,m+d≤v→(bitAt (backTo m ss d U) v=true↔bitAt U v=true)
 | 0,_,_,_,_,_=>Iff.rfl
 | d+1,U,hd,hl,v,h=>by
  rw [backTo,back_hi m ss ho d _ (by omega) (by rw [step_length];exact hl) v (by omega),step_bits m ss ho U hl d (by omega) v]
  obtain ⟨o1,o2,o3⟩:=ho d (by omega)
  have q2:(rdS ss d).f0≤(rdS ss d).f1:=o2
  have q3:(rdS ss d).f1 < (m:Int)+d:=o3
  constructor
  ·rintro (⟨_,h|h⟩|h)
   ·omega
   ·omega
   ·exact h
  ·exact .inr
theorem back_closed (m:Nat) (ss:List St) (ho:InOrder m ss):∀ (d:Nat) (U:List Bool),d≤ss.length→U.length=m+ss.length→∀ i:Nat,i < d→bitAt (backTo m ss d U) (m+i)=true→bitAt (backTo m ss d U) (rdS ss i).f0.toNat=true∧bitAt (backTo m ss d U) (rdS ss i).f1.toNat=true
 | 0,_,_,_,i,h,_=>absurd h (Nat.not_lt_zero _)
 | d+1,U,hd,hl,i,hi,h=>by
  have hl2:(impl_Plan_used.step m ss U d).length=m+ss.length:=by rw [step_length];exact hl
  by_cases e:i=d
  ·subst e
   obtain ⟨o1,o2,o3⟩:=ho i (by omega)
   have q1:0≤(rdS ss i).f0:=o1
   have q2:(rdS ss i).f0≤(rdS ss i).f1:=o2
   have q3:(rdS ss i).f1 < (m:Int)+i:=o3
   rw [backTo,back_hi m ss ho i _ (by omega) hl2 (m+i) (by omega)] at h
   have hU:bitAt U (m+i)=true:=by
    rcases (step_bits m ss ho U hl i (by omega) (m+i)).1 h with ⟨h,_⟩|h <;> exact h
   exact ⟨back_mono m ss ho i _ (by omega) hl2 _ ((step_bits m ss ho U hl i (by omega) _).2 (.inl ⟨hU,.inl (by omega)⟩)),back_mono m ss ho i _ (by omega) hl2 _ ((step_bits m ss ho U hl i (by omega) _).2 (.inl ⟨hU,.inr (by omega)⟩))⟩
  ·exact back_closed m ss ho d _ (by omega) hl2 i (by omega) h
def placeFrom (xs:List Int) (x:Int):Nat→Nat→Int
 | 0,_=>-1
 | d+1,i=>if rd xs (i:Int)=x then (i:Int) else placeFrom xs x d (i+1)
theorem plPlace_ev (xs:List Int) (x:Int) (hl:xs.length≤1000000):Ev (fun k=>spec_plPlace.f k xs x) (placeFrom xs x xs.length 0):=by
 have loop:∀ (d i:Nat),i+d=xs.length→Ev (fun k=>spec_plPlace.l0 k x xs xs.length i) (placeFrom xs x d i):=by
  intro d
  induction d with
  | zero=>
   intro i hd
   refine ev_shift ?_
   simp only [spec_plPlace.l0,if_neg (show ¬ (i:Int) < (xs.length:Int) by omega),placeFrom]
   exact Ev.now _
  | succ d ih=>
   intro i hd
   refine ev_shift ?_
   simp only [spec_plPlace.l0,if_pos (show (i:Int) < (xs.length:Int) by omega),if_pos (show (0:Int)≤(i:Int) by omega),w64 (show -9223372036854775808≤(i:Int)+1 by omega) (by omega),placeFrom]
   by_cases c:rd xs (i:Int)=x
   ·simp only [if_pos c];exact Ev.now _
   ·simp only [if_neg c];exact ih (i+1) (by omega)
 exact loop xs.length 0 (by omega)
theorem place_at (xs:List Int) (x:Int) (c:Nat) (hc:c < xs.length) (hx:rd xs (c:Int)=x) (hn:∀ j:Nat,j < c→rd xs (j:Int)≠x):∀ (d i:Nat),i+d=xs.length→i≤c→placeFrom xs x d i=c
 | 0,i,h1,h2=>by omega
 | d+1,i,h1,h2=>by
  rw [placeFrom]
  by_cases e:i=c
  ·subst e;rw [if_pos hx]
  ·rw [if_neg (hn i (by omega))];exact place_at xs x c hc hx hn d (i+1) (by omega) (by omega)
theorem place_pick (U:List Bool) (m n i:Nat) (hi:i < n) (hb:bitAt U (m+i)=true):placeFrom (pick U m n 0) (i:Int) (pick U m n 0).length 0=cnt U m i:=by
 have e:pick U m n 0=pick U m i 0++((i:Int) :: pick U m (n - i - 1) (i+1)):=by
  have:=pick_add U m i (n - i) 0
  rw [show i+(n - i)=n by omega,Nat.zero_add,show n - i=(n - i - 1)+1 by omega,pick,if_pos hb] at this
  exact this
 have hlen:cnt U m i < (pick U m n 0).length:=by rw [e,List.length_append,List.length_cons];show (pick U m i 0).length < _;omega
 refine place_at _ _ (cnt U m i) hlen ?_ (fun j hj=>?_) _ 0 (by omega) (by omega)
 ·rw [rd_nat,e,List.getD_eq_getElem?_getD,List.getElem?_append_right (show (pick U m i 0).length≤cnt U m i from Nat.le_refl _),show cnt U m i - (pick U m i 0).length=0 from Nat.sub_self _]
  rfl
 ·have hj' : j < (pick U m i 0).length:=hj
  rw [rd_nat,e,List.getD_eq_getElem?_getD,List.getElem?_append_left hj',List.getElem?_eq_getElem hj']
  obtain ⟨q,e1,_,h2,_⟩:=pick_mem U m i 0 _ (List.getElem_mem hj')
  show (pick U m i 0)[j]≠i
  rw [e1]
  omega
theorem plNumber_ev (m:Nat) (ss:List St) (os:List Int) (U:List Bool) (n:Nat) (hn:n≤40) (hm:m≤6) (v:Int) (h0:0≤v) (h1:v < (m:Int)+n) (hb:v < m∨bitAt U v.toNat=true):Ev (fun k=>spec_plNumber.f k m ss os (pick U m n 0) v) (num U m v):=by
 unfold spec_plNumber.f num
 by_cases c:v < (m:Int)
 ·simp only [if_pos c];exact Ev.now _
 ·simp only [if_neg c]
  have hb' : bitAt U v.toNat=true:=hb.resolve_left c
  have hl:=pick_length U m n 0
  have hc:=cnt_le U m (v - m).toNat
  have hp:=plPlace_ev (pick U m n 0) (v - m) (by omega)
  have e:placeFrom (pick U m n 0) (v - m) (pick U m n 0).length 0=cnt U m (v - m).toNat:=by
   have:=place_pick U m n (v - m).toNat (by omega) (by rw [show m+(v - m).toNat=v.toNat by omega];exact hb')
   rw [show (((v - m).toNat:Nat):Int)=v - m by omega] at this
   exact this
  rw [e] at hp
  simp only [w64 (show -9223372036854775808≤v - (m:Int) by omega) (by omega)]
  refine ev_bind hp ?_
  simp only [w64 (show -9223372036854775808≤(m:Int)+(cnt U m (v - m).toNat:Int) by omega) (by omega)]
  exact Ev.now _
theorem least_mn (a b:Int):spec_l1Least.f a b=some (mn a b):=by
 unfold spec_l1Least.f mn
 split <;> split <;> first|rfl|exact congrArg some (by omega)
theorem most_mx (a b:Int):spec_l1Most.f a b=some (mx a b):=by
 unfold spec_l1Most.f mx
 split <;> split <;> first|rfl|exact congrArg some (by omega)
theorem plKeep_ev (m:Nat) (ss:List St) (os:List Int) (h1:1≤m) (h2:m≤6) (h3:ss.length≤40) (h4:os.length≤6) (ho:InOrder m ss) (hos:∀ j:Nat,j < os.length→0≤rd os j∧rd os j≤(m:Int)+ss.length - 1):Ev (fun k=>spec_plKeep.f k m ss os (usedOf m ss os)) ((m:Int),tSteps m ss os,tOuts m ss os):=by
 have hUl:=marksOf_length m ss os
 have hm:=outs_mem hos
 have hl0:(impl_Plan_used.marks os (List.replicate (m+ss.length) false)).length=m+ss.length:=by rw [impl_Plan_used.marks_length,List.length_replicate]
 have hcl:∀ i:Nat,i < ss.length→bitAt (marksOf m ss os) (m+i)=true→bitAt (marksOf m ss os) (rdS ss i).f0.toNat=true∧bitAt (marksOf m ss os) (rdS ss i).f1.toNat=true:=fun i hi h=>back_closed m ss ho ss.length _ (Nat.le_refl _) hl0 i hi h
 have hob:∀ x∈os,bitAt (marksOf m ss os) x.toNat=true:=fun x hx=>by
  have hx':=hm x hx
  refine back_mono m ss ho ss.length _ (Nat.le_refl _) hl0 _ ((marks_bits os _ _ (fun y hy=>by rw [List.length_replicate];have:=hm y hy;omega)).2 (.inl ?_))
  rw [show ((x.toNat:Nat):Int)=x by omega]
  exact hx
 unfold tSteps tOuts usedOf spec_plKeep.f
 generalize marksOf m ss os=U at *
 have hpl:=pick_length U m ss.length 0
 have outs:∀ (d i:Nat) (st:List St),i+d=os.length→Ev (fun k=>spec_plKeep.l1 k (pick U m ss.length 0) os os.length i m ss os m st ((os.take i).map (num U m))) ((m:Int),st,os.map (num U m)):=by
  intro d
  induction d with
  | zero=>
   intro i st hd
   refine ev_shift ?_
   simp only [spec_plKeep.l1,if_neg (show ¬ (i:Int) < (os.length:Int) by omega)]
   rw [List.take_of_length_le (by omega)]
   exact Ev.now _
  | succ d ih=>
   intro i st hd
   have e:rd os (i:Int)=os[i]'(by omega):=by rw [rd_nat];simp [List.getD,show i < os.length by omega]
   have hx:=hm _ (List.getElem_mem (show i < os.length by omega))
   have hxb:=hob _ (List.getElem_mem (show i < os.length by omega))
   rw [← e] at hx hxb
   refine ev_shift ?_
   simp only [spec_plKeep.l1,if_pos (show (i:Int) < (os.length:Int) by omega),if_pos (show (0:Int)≤(i:Int) by omega),if_pos (show ((os.take i).map (num U m)).length < 17592186044416 by simp;omega),w64 (show -9223372036854775808≤(i:Int)+1 by omega) (by omega)]
   refine ev_bind (plNumber_ev m ss os U ss.length h3 h2 _ hx.1 (by omega) (.inr hxb)) ?_
   have:=ih (i+1) st (by omega)
   rw [List.take_succ_eq_append_getElem (by omega),List.map_append,← e] at this
   exact this
 have loop:∀ (d j:Nat),j+d=(pick U m ss.length 0).length→Ev (fun k=>spec_plKeep.l0 k (pick U m ss.length 0) (pick U m ss.length 0) (pick U m ss.length 0).length j m ss os m (((pick U m ss.length 0).take j).map (stepAt U m ss))) ((m:Int),(pick U m ss.length 0).map (stepAt U m ss),os.map (num U m)):=by
  intro d
  induction d with
  | zero=>
   intro j hd
   refine ev_shift ?_
   simp only [spec_plKeep.l0,if_neg (show ¬ (j:Int) < ((pick U m ss.length 0).length:Int) by omega)]
   rw [List.take_of_length_le (by omega)]
   exact outs os.length 0 _ (by omega)
  | succ d ih=>
   intro j hd
   have e:rd (pick U m ss.length 0) (j:Int)=(pick U m ss.length 0)[j]'(by omega):=by rw [rd_nat];simp [List.getD,show j < (pick U m ss.length 0).length by omega]
   obtain ⟨i,ei,_,hi,hbi⟩:=pick_mem U m ss.length 0 _ (List.getElem_mem (show j < (pick U m ss.length 0).length by omega))
   have er:rd (pick U m ss.length 0) (j:Int)=(i:Int):=by rw [e];exact ei
   obtain ⟨o1,o2,o3⟩:=ho i (by omega)
   have q1:0≤(rdS ss i).f0:=o1
   have q2:(rdS ss i).f0≤(rdS ss i).f1:=o2
   have q3:(rdS ss i).f1 < (m:Int)+i:=o3
   obtain ⟨ba,bb⟩:=hcl i (by omega) hbi
   refine ev_shift ?_
   simp only [spec_plKeep.l0,if_pos (show (j:Int) < ((pick U m ss.length 0).length:Int) by omega),if_pos (show (0:Int)≤(j:Int) by omega),er,if_pos (show (0:Int)≤(i:Int) by omega),if_pos (show (i:Int) < (ss.length:Int) by omega),w64 (show -9223372036854775808≤(j:Int)+1 by omega) (by omega)]
   refine ev_bind (plNumber_ev m ss os U ss.length h3 h2 (rdS ss i).f0 q1 (by omega) (.inr ba)) ?_
   refine ev_bind (plNumber_ev m ss os U ss.length h3 h2 (rdS ss i).f1 (by omega) (by omega) (.inr bb)) ?_
   simp only [spec_plStep.f,least_mn,most_mx,Option.bind_some,if_pos (show (((pick U m ss.length 0).take j).map (stepAt U m ss)).length < 8796093022208 by rw [List.length_map,List.length_take];omega)]
   have:=ih (j+1) (by omega)
   rw [List.take_succ_eq_append_getElem (by omega),List.map_append,← e,er] at this
   exact this
 exact loop (pick U m ss.length 0).length 0 (by omega)
theorem tSteps_length (m:Nat) (ss:List St) (os:List Int):(tSteps m ss os).length≤ss.length:=by unfold tSteps;rw [List.length_map];exact usedOf_length m ss os
theorem step_bit (m:Nat) (ss:List St) (ho:InOrder m ss) (U:List Bool) (d:Nat) (hd:d < ss.length) (hU:U.length=m+ss.length) (v:Nat) :
  bitAt (impl_Plan_used.step m ss U d) v=true↔bitAt U v=true∨(bitAt U (m+d)=true∧((v:Int)=(rdS ss d).f0∨(v:Int)=(rdS ss d).f1)):=by
 obtain ⟨k1,k2,k3⟩:=ho d hd
 have hb:rdOf false U ((m:Int)+(d:Int))=bitAt U (m+d):=by unfold rdOf bitAt;rw [show ((m:Int)+(d:Int)).toNat=m+d by omega]
 have k3' : (rdS ss d).f1 < (m:Int)+d:=k3
 have k2' : (rdS ss d).f0≤(rdS ss d).f1:=k2
 have k1' : 0≤(rdS ss d).f0:=k1
 have e0:((rdS ss d).f0.toNat:Int)=(rdS ss d).f0:=Int.toNat_of_nonneg k1
 have e1:((rdS ss d).f1.toNat:Int)=(rdS ss d).f1:=Int.toNat_of_nonneg (Int.le_trans k1 k2)
 unfold impl_Plan_used.step
 rw [hb]
 by_cases c:bitAt U (m+d)=true
 ·rw [if_pos c]
  have l1:(rdS ss d).f0.toNat < U.length:=by omega
  have l2:(rdS ss d).f1.toNat < (U.set (rdS ss d).f0.toNat true).length:=by rw [List.length_set];omega
  rw [show (rd_T73 ss (d:Int))=rdS ss d from rfl,bit_set _ _ _ l2,bit_set _ _ _ l1]
  constructor
  ·rintro (h|h|h)
   ·exact .inr ⟨c,.inr (by omega)⟩
   ·exact .inr ⟨c,.inl (by omega)⟩
   ·exact .inl h
  ·rintro (h|⟨_,h|h⟩)
   ·exact .inr (.inr h)
   ·exact .inr (.inl (by omega))
   ·exact .inl (by omega)
 ·rw [if_neg c]
  exact ⟨.inl,fun h=>h.elim id (fun h=>absurd h.1 c)⟩
theorem back_facts (m:Nat) (ss:List St) (ho:InOrder m ss):∀ (d:Nat) (U:List Bool),d≤ss.length→U.length=m+ss.length →
  (∀ v,bitAt U v=true→bitAt (backTo m ss d U) v=true)∧(∀ v,m+d≤v→bitAt (backTo m ss d U) v=true→bitAt U v=true) ∧
  (∀ i,i < d→bitAt (backTo m ss d U) (m+i)=true→∀ v:Nat,((v:Int)=(rdS ss i).f0∨(v:Int)=(rdS ss i).f1)→bitAt (backTo m ss d U) v=true) ∧
  (∀ v,bitAt (backTo m ss d U) v=true→bitAt U v=true∨∃ i,i < d∧bitAt (backTo m ss d U) (m+i)=true∧((v:Int)=(rdS ss i).f0∨(v:Int)=(rdS ss i).f1))
 | 0,U,_,_=>⟨fun _ h=>h,fun _ _ h=>h,fun _ h=>absurd h (Nat.not_lt_zero _),fun _ h=>.inl h⟩
 | d+1,U,hd,hU=>by
  have hs:=step_bit m ss ho U d (by omega) hU
  obtain ⟨a,b,c,e⟩:=back_facts m ss ho d (impl_Plan_used.step m ss U d) (by omega) (by rw [step_length];exact hU)
  obtain ⟨k1,k2,k3⟩:=ho d (by omega)
  have up:∀ v,bitAt U v=true→bitAt (backTo m ss (d+1) U) v=true:=fun v h=>a v ((hs v).2 (.inl h))
  have dn:∀ v,m+d≤v→bitAt (backTo m ss (d+1) U) v=true→bitAt U v=true:=fun v hv h=>by
   rcases (hs v).1 (b v hv h) with q|⟨_,q|q⟩
   ·exact q
   ·have:(v:Int)=(rdS ss d).f0:=q
    have k3' : (rdS ss d).f1 < m+(d:Int):=k3
    have k2' : (rdS ss d).f0≤(rdS ss d).f1:=k2
    omega
   ·have:(v:Int)=(rdS ss d).f1:=q
    have k3' : (rdS ss d).f1 < m+(d:Int):=k3
    omega
  refine ⟨up,fun v hv h=>dn v (by omega) h,fun i hi h v hv=>?_,fun v h=>?_⟩
  ·by_cases q:i=d
   ·subst q
    exact a v ((hs v).2 (.inr ⟨dn _ (Nat.le_refl _) h,hv⟩))
   ·exact c i (by omega) h v hv
  ·rcases e v h with q|⟨i,hi,q1,q2⟩
   ·rcases (hs v).1 q with q|⟨q1,q2⟩
    ·exact .inl q
    ·exact .inr ⟨d,by omega,up _ q1,q2⟩
   ·exact .inr ⟨i,by omega,q1,q2⟩
theorem marks_facts (m:Nat) (ss:List St) (os:List Int) (ho:InOrder m ss) (hos:∀ x∈os,0≤x∧x < (m:Int)+ss.length) :
  (∀ v:Nat,(v:Int)∈os→bitAt (marksOf m ss os) v=true) ∧
  (∀ i,i < ss.length→bitAt (marksOf m ss os) (m+i)=true→∀ v:Nat,((v:Int)=(rdS ss i).f0∨(v:Int)=(rdS ss i).f1)→bitAt (marksOf m ss os) v=true) ∧
  (∀ v:Nat,bitAt (marksOf m ss os) v=true→(v:Int)∈os∨∃ i,i < ss.length∧bitAt (marksOf m ss os) (m+i)=true∧((v:Int)=(rdS ss i).f0∨(v:Int)=(rdS ss i).f1)):=by
 have hl:(impl_Plan_used.marks os (List.replicate (m+ss.length) false)).length=m+ss.length:=by rw [impl_Plan_used.marks_length,List.length_replicate]
 obtain ⟨a,_,c,e⟩:=back_facts m ss ho ss.length _ (Nat.le_refl _) hl
 have hb:=fun v=>marks_bits os (List.replicate (m+ss.length) false) v (fun x hx=>by rw [List.length_replicate];have:=hos x hx;omega)
 refine ⟨fun v h=>a v ((hb v).2 (.inl h)),c,fun v h=>?_⟩
 rcases e v h with q|q
 ·rcases (hb v).1 q with q|q
  ·exact .inl q
  ·unfold bitAt at q
   rw [List.getD_eq_getElem?_getD,List.getElem?_replicate] at q
   split at q <;> simp at q
 ·exact .inr q
theorem grow_snoc (ss:List St):∀ (d:Nat) (i:Int) (rows:List (List Int)),grow ss (d+1) i rows=grow ss d i rows++[addRow (rd_L4 (grow ss d i rows) (rdS ss (i+d)).f0) (rd_L4 (grow ss d i rows) (rdS ss (i+d)).f1)]
 | 0,i,rows=>by rw [grow,grow,grow,show i+((0:Nat):Int)=i by omega]
 | d+1,i,rows=>by
  rw [grow,grow_snoc ss d (i+1),show i+1+(d:Int)=i+((d+1:Nat):Int) by omega]
  rfl
def eTo (n:Nat) (ss:List St) (i:Nat):List (List Int):=grow ss i 0 (base0 n n)
theorem eTo_succ (n:Nat) (ss:List St) (i:Nat):eTo n ss (i+1)=eTo n ss i++[addRow (rd_L4 (eTo n ss i) (rdS ss i).f0) (rd_L4 (eTo n ss i) (rdS ss i).f1)]:=by
 unfold eTo
 rw [grow_snoc,Int.zero_add]
theorem eTo_length (n:Nat) (ss:List St):∀ i,(eTo n ss i).length=n+i
 | 0=>base0_length n n
 | i+1=>by rw [eTo_succ,List.length_append,List.length_singleton,eTo_length n ss i];rfl
theorem eTo_ok (n:Nat) (ss:List St) (ho:InOrder n ss):∀ i,i≤ss.length→RowsOk n (n+i) (eTo n ss i)
 | 0,_=>base0_ok n n
 | i+1,h=>by
  have ih:=eTo_ok n ss ho i (by omega)
  obtain ⟨k1,k2,k3⟩:=ho i (by omega)
  have hl:=eTo_length n ss i
  have k3' : (rdS ss i).f1 < (n:Int)+i:=k3
  have k2' : (rdS ss i).f0≤(rdS ss i).f1:=k2
  rw [eTo_succ]
  exact ih.snoc (addRow_ok n _ _ (ih.2 _ (rd_mem _ _ k1 (by rw [hl];omega))) (ih.2 _ (rd_mem _ _ (Int.le_trans k1 k2) (by rw [hl];omega))))
theorem sumFrom_comm (a b:List Int):∀ d k,sumFrom a b d k=sumFrom b a d k
 | 0,_=>rfl
 | d+1,k=>by rw [sumFrom,sumFrom,sumFrom_comm a b d,Int.add_comm]
theorem addRow_comm (a b:List Int) (h:a.length=b.length):addRow a b=addRow b a:=by unfold addRow;rw [h,sumFrom_comm]
theorem rdL_left (A:List (List Int)) (x:List Int) (v:Int) (h0:0≤v) (h:v < A.length):rd_L4 (A++[x]) v=rd_L4 A v:=by
 unfold rd_L4
 rw [List.getD_eq_getElem?_getD,List.getD_eq_getElem?_getD,List.getElem?_append_left (by omega)]
theorem rdL_last (A:List (List Int)) (x:List Int):rd_L4 (A++[x]) (A.length:Int)=x:=by
 unfold rd_L4
 rw [Int.toNat_natCast]
 simp [List.getD]
theorem mnmx (a b:Int):(mn a b=a∧mx a b=b∧a≤b)∨(mn a b=b∧mx a b=a∧b≤a):=by
 unfold mn mx
 by_cases h:a≤b
 ·by_cases h2:b≤a
  ·have:a=b:=by omega
   subst this
   left;simp
  ·left;refine ⟨?_,?_,h⟩ <;> simp <;> omega
 ·right;refine ⟨?_,?_,by omega⟩ <;> simp <;> omega
theorem cnt_succ (U:List Bool) (m i:Nat):cnt U m (i+1)=cnt U m i+(if bitAt U (m+i)=true then 1 else 0):=by
 unfold cnt
 rw [pick_succ,List.length_append]
 split <;> rfl
theorem cnt_mono (U:List Bool) (m:Nat):∀ (d i:Nat),cnt U m i≤cnt U m (i+d)
 | 0,i=>Nat.le_refl _
 | d+1,i=>by
  have:=cnt_mono U m d i
  rw [show i+(d+1)=(i+d)+1 by omega,cnt_succ]
  omega
theorem num_lt (U:List Bool) (m i:Nat) (v:Int) (h0:0≤v) (h1:v < m+i) (hb:v < m∨bitAt U v.toNat=true):0≤num U m v∧num U m v < (m:Int)+cnt U m i:=by
 unfold num
 by_cases c:v < m
 ·rw [if_pos c];omega
 ·rw [if_neg c]
  have hb:=hb.resolve_left c
  obtain ⟨j,hj⟩ : ∃ j:Nat,(v - m).toNat=j:=⟨_,rfl⟩
  have e:v.toNat=m+j:=by omega
  have h2:=cnt_mono U m (i - (j+1)) (j+1)
  rw [show j+1+(i - (j+1))=i by omega,cnt_succ,← e,if_pos hb] at h2
  rw [hj]
  omega
theorem pick_at (U:List Bool) (m L i:Nat) (hi:i < L) (hb:bitAt U (m+i)=true):(pick U m L 0)[cnt U m i]? = some (i:Int):=by
 have e:pick U m L 0=pick U m i 0++((i:Int) :: pick U m (L - (i+1)) (i+1)):=by
  rw [show L=i+(1+(L - (i+1))) by omega,pick_add,Nat.zero_add,pick_add,pick,if_pos hb,pick]
  rw [show i+(1+(L - (i+1))) - (i+1)=L - (i+1) by omega]
  rfl
 rw [e,show cnt U m i=(pick U m i 0).length from rfl,List.getElem?_append_right (Nat.le_refl _),Nat.sub_self]
 rfl
theorem tStep_at (m:Nat) (ss:List St) (os:List Int) (i:Nat) (hi:i < ss.length) (hb:bitAt (marksOf m ss os) (m+i)=true):rdS (tSteps m ss os) (cnt (marksOf m ss os) m i:Int)=stepAt (marksOf m ss os) m ss i:=by
 have h:=pick_at (marksOf m ss os) m ss.length i hi hb
 unfold rdS rd_T73 tSteps usedOf
 rw [Int.toNat_natCast,List.getD_eq_getElem?_getD,List.getElem?_map,h]
 rfl
theorem trim_exps (m:Nat) (ss:List St) (os:List Int) (ho:InOrder m ss) (hos:∀ x∈os,0≤x∧x < (m:Int)+ss.length):∀ (i:Nat),i≤ss.length→∀ v:Int,0≤v→v < (m:Int)+i→(v < m∨bitAt (marksOf m ss os) v.toNat=true) →
  rd_L4 (eTo m (tSteps m ss os) (cnt (marksOf m ss os) m i)) (num (marksOf m ss os) m v)=rd_L4 (eTo m ss i) v:=by
 obtain ⟨f1,f2,f3⟩:=marks_facts m ss os ho hos
 intro i
 induction i with
 | zero=>
  intro _ v h0 h1 hb
  have c:v < m:=by omega
  unfold num
  rw [if_pos c]
  rfl
 | succ i ih=>
  intro hi v h0 h1 hb
  have ih:=ih (by omega)
  have hl:=eTo_length m ss i
  have hk:=cnt_succ (marksOf m ss os) m i
  by_cases hu:bitAt (marksOf m ss os) (m+i)=true
  ·rw [if_pos hu] at hk
   rw [hk,eTo_succ,eTo_succ]
   have hlT:=eTo_length m (tSteps m ss os) (cnt (marksOf m ss os) m i)
   by_cases e:v=(m:Int)+i
   ·have en:num (marksOf m ss os) m v=((eTo m (tSteps m ss os) (cnt (marksOf m ss os) m i)).length:Int):=by
     unfold num
     rw [if_neg (by omega),hlT,show (v - m).toNat=i by omega]
     omega
    have ev:v=((eTo m ss i).length:Int):=by rw [hl];omega
    rw [en,rdL_last,ev,rdL_last,tStep_at m ss os i (by omega) hu]
    obtain ⟨k1,k2,k3⟩:=ho i (by omega)
    have b0:bitAt (marksOf m ss os) (rdS ss i).f0.toNat=true:=f2 i (by omega) hu _ (.inl (Int.toNat_of_nonneg k1))
    have b1:bitAt (marksOf m ss os) (rdS ss i).f1.toNat=true:=f2 i (by omega) hu _ (.inr (Int.toNat_of_nonneg (Int.le_trans k1 k2)))
    have k3' : (rdS ss i).f1 < (m:Int)+i:=k3
    have k2' : (rdS ss i).f0≤(rdS ss i).f1:=k2
    have i0:=ih (rdS ss i).f0 k1 (by omega) (.inr b0)
    have i1:=ih (rdS ss i).f1 (Int.le_trans k1 k2) (by omega) (.inr b1)
    have r0:=(eTo_ok m ss ho i (by omega)).2 _ (rd_mem _ (rdS ss i).f0 k1 (by rw [hl];omega))
    have r1:=(eTo_ok m ss ho i (by omega)).2 _ (rd_mem _ (rdS ss i).f1 (Int.le_trans k1 k2) (by rw [hl];omega))
    unfold stepAt
    rcases mnmx (num (marksOf m ss os) m (rdS ss i).f0) (num (marksOf m ss os) m (rdS ss i).f1) with ⟨q0,q1,_⟩|⟨q0,q1,_⟩
    ·show addRow (rd_L4 _ (mn _ _)) (rd_L4 _ (mx _ _))=_
     rw [q0,q1,i0,i1]
    ·show addRow (rd_L4 _ (mn _ _)) (rd_L4 _ (mx _ _))=_
     rw [q0,q1,i0,i1]
     exact addRow_comm _ _ (by rw [r0.1,r1.1])
   ·have hv:v < (m:Int)+i:=by omega
    have hn:=num_lt (marksOf m ss os) m i v h0 hv hb
    rw [rdL_left _ _ _ hn.1 (by rw [hlT];omega),rdL_left _ _ _ h0 (by rw [hl];omega)]
    exact ih v h0 hv hb
  ·rw [if_neg hu,Nat.add_zero] at hk
   have e : ¬ v=(m:Int)+i:=fun e=>by
    rcases hb with q|q
    ·omega
    ·exact hu (by rw [show m+i=v.toNat by omega];exact q)
   have hv:v < (m:Int)+i:=by omega
   rw [hk,eTo_succ m ss i,rdL_left _ _ _ h0 (by rw [hl];omega)]
   exact ih v h0 hv hb
theorem pick_inv (U:List Bool) (m:Nat):∀ (L j:Nat),j < cnt U m L→∃ i,i < L∧bitAt U (m+i)=true∧cnt U m i=j
 | 0,j,h=>absurd h (Nat.not_lt_zero _)
 | L+1,j,h=>by
  rw [cnt_succ] at h
  by_cases c:j < cnt U m L
  ·obtain ⟨i,a,b,e⟩:=pick_inv U m L j c
   exact ⟨i,by omega,b,e⟩
  ·by_cases q:bitAt U (m+L)=true
   ·rw [if_pos q] at h
    exact ⟨L,by omega,q,by omega⟩
   ·rw [if_neg q] at h
    omega
theorem tSteps_len (m:Nat) (ss:List St) (os:List Int):(tSteps m ss os).length=cnt (marksOf m ss os) m ss.length:=by unfold tSteps usedOf cnt;rw [List.length_map]
theorem trim_order (m:Nat) (ss:List St) (os:List Int) (ho:InOrder m ss) (hos:∀ x∈os,0≤x∧x < (m:Int)+ss.length):InOrder m (tSteps m ss os):=by
 obtain ⟨f1,f2,f3⟩:=marks_facts m ss os ho hos
 intro j hj
 rw [tSteps_len] at hj
 obtain ⟨i,hi,hb,rfl⟩:=pick_inv _ m ss.length j hj
 have e:=tStep_at m ss os i hi hb
 obtain ⟨k1,k2,k3⟩:=ho i hi
 have b0:bitAt (marksOf m ss os) (rdS ss i).f0.toNat=true:=f2 i hi hb _ (.inl (Int.toNat_of_nonneg k1))
 have b1:bitAt (marksOf m ss os) (rdS ss i).f1.toNat=true:=f2 i hi hb _ (.inr (Int.toNat_of_nonneg (Int.le_trans k1 k2)))
 have k3' : (rdS ss i).f1 < (m:Int)+i:=k3
 have k2' : (rdS ss i).f0≤(rdS ss i).f1:=k2
 have n0:=num_lt (marksOf m ss os) m i (rdS ss i).f0 k1 (by omega) (.inr b0)
 have n1:=num_lt (marksOf m ss os) m i (rdS ss i).f1 (Int.le_trans k1 k2) (by omega) (.inr b1)
 show 0≤(rdS (tSteps m ss os) _).f0∧(rdS (tSteps m ss os) _).f0≤(rdS (tSteps m ss os) _).f1∧(rdS (tSteps m ss os) _).f1 < _
 rw [e]
 unfold stepAt
 rcases mnmx (num (marksOf m ss os) m (rdS ss i).f0) (num (marksOf m ss os) m (rdS ss i).f1) with ⟨q0,q1,q2⟩|⟨q0,q1,q2⟩
 ·show 0≤mn _ _∧mn _ _≤mx _ _∧mx _ _ < _
  rw [q0,q1]
  exact ⟨n0.1,q2,n1.2⟩
 ·show 0≤mn _ _∧mn _ _≤mx _ _∧mx _ _ < _
  rw [q0,q1]
  exact ⟨n1.1,q2,n0.2⟩
theorem trim_outs (m:Nat) (ss:List St) (os:List Int) (ho:InOrder m ss) (hos:∀ x∈os,0≤x∧x < (m:Int)+ss.length):∀ x∈tOuts m ss os,0≤x∧x < (m:Int)+(tSteps m ss os).length:=by
 obtain ⟨f1,f2,f3⟩:=marks_facts m ss os ho hos
 intro x hx
 obtain ⟨v,hv,rfl⟩:=List.mem_map.1 hx
 have h:=hos v hv
 rw [tSteps_len]
 exact num_lt _ m ss.length v h.1 h.2 (.inr (f1 v.toNat (by rw [Int.toNat_of_nonneg h.1];exact hv)))
theorem trim_exp (m:Nat) (ss:List St) (os:List Int) (ho:InOrder m ss) (hos:∀ x∈os,0≤x∧x < (m:Int)+ss.length) (v:Int) (h0:0≤v) (h1:v < (m:Int)+ss.length) (hb:v < m∨bitAt (marksOf m ss os) v.toNat=true) :
  rd_L4 (exps m (tSteps m ss os)) (num (marksOf m ss os) m v)=rd_L4 (exps m ss) v:=by
 have:=trim_exps m ss os ho hos ss.length (Nat.le_refl _) v h0 h1 hb
 rw [← tSteps_len] at this
 exact this
theorem trim_sub (m:Nat) (ss:List St) (os:List Int) (ho:InOrder m ss) (hos:∀ x∈os,0≤x∧x < (m:Int)+ss.length):∀ r∈exps m (tSteps m ss os),r∈exps m ss:=by
 intro r hr
 obtain ⟨j,hj,rfl⟩:=List.mem_iff_getElem.1 hr
 have hlT:(exps m (tSteps m ss os)).length=m+(tSteps m ss os).length:=eTo_length _ _ _
 have hl:(exps m ss).length=m+ss.length:=eTo_length _ _ _
 have er:rd_L4 (exps m (tSteps m ss os)) (j:Int)=(exps m (tSteps m ss os))[j]:=by unfold rd_L4;rw [Int.toNat_natCast];simp [List.getD,hj]
 rw [← er]
 by_cases c:j < m
 ·have h:=trim_exp m ss os ho hos j (by omega) (by omega) (.inl (by omega))
  have en:num (marksOf m ss os) m (j:Int)=j:=by unfold num;rw [if_pos (by omega)]
  rw [en] at h
  rw [h]
  exact rd_mem _ _ (by omega) (by rw [hl];omega)
 ·obtain ⟨i,hi,hb,e⟩:=pick_inv (marksOf m ss os) m ss.length (j - m) (by rw [← tSteps_len];omega)
  have h:=trim_exp m ss os ho hos ((m+i:Nat):Int) (by omega) (by omega) (.inr (by rw [Int.toNat_natCast];exact hb))
  have en:num (marksOf m ss os) m ((m+i:Nat):Int)=j:=by
   unfold num
   rw [if_neg (by omega),show (((m+i:Nat):Int) - m).toNat=i by omega,e]
   omega
  rw [en] at h
  rw [h]
  exact rd_mem _ _ (by omega) (by rw [hl];omega)
theorem trim_used (m:Nat) (ss:List St) (os:List Int) (ho:InOrder m ss) (hos:∀ x∈os,0≤x∧x < (m:Int)+ss.length):∀ (n v:Nat),m+ss.length - v≤n→v < m+ss.length→bitAt (marksOf m ss os) v=true→bitAt (marksOf m (tSteps m ss os) (tOuts m ss os)) (num (marksOf m ss os) m v).toNat=true:=by
 obtain ⟨f1,f2,f3⟩:=marks_facts m ss os ho hos
 obtain ⟨g1,g2,_⟩:=marks_facts m (tSteps m ss os) (tOuts m ss os) (trim_order m ss os ho hos) (trim_outs m ss os ho hos)
 intro n
 induction n with
 | zero=>intro v h1 h2;omega
 | succ n ih=>
  intro v h1 h2 hb
  have hn:=num_lt (marksOf m ss os) m ss.length v (by omega) (by omega) (.inr (by rw [Int.toNat_natCast];exact hb))
  rcases f3 v hb with q|⟨i,hi,hbi,q⟩
  ·exact g1 _ (by rw [Int.toNat_of_nonneg hn.1];exact List.mem_map.2 ⟨v,q,rfl⟩)
  ·obtain ⟨k1,k2,k3⟩:=ho i hi
   have k3' : (rdS ss i).f1 < (m:Int)+i:=k3
   have k2' : (rdS ss i).f0≤(rdS ss i).f1:=k2
   have hv:(v:Int) < (m:Int)+i:=by rcases q with q|q <;> omega
   have hI:=ih (m+i) (by omega) (by omega) hbi
   have en:(num (marksOf m ss os) m ((m+i:Nat):Int)).toNat=m+cnt (marksOf m ss os) m i:=by
    unfold num
    rw [if_neg (by omega),show (((m+i:Nat):Int) - m).toNat=i by omega]
    omega
   rw [en] at hI
   have hc:cnt (marksOf m ss os) m i < (tSteps m ss os).length:=by
    rw [tSteps_len]
    have h2:=cnt_mono (marksOf m ss os) m (ss.length - (i+1)) (i+1)
    rw [show i+1+(ss.length - (i+1))=ss.length by omega,cnt_succ,if_pos hbi] at h2
    omega
   refine g2 _ hc hI _ ?_
   rw [tStep_at m ss os i hi hbi,Int.toNat_of_nonneg hn.1]
   unfold stepAt
   show _=mn _ _∨_=mx _ _
   rcases mnmx (num (marksOf m ss os) m (rdS ss i).f0) (num (marksOf m ss os) m (rdS ss i).f1) with ⟨q0,q1,_⟩|⟨q0,q1,_⟩ <;> rw [q0,q1] <;> rcases q with q|q <;> rw [q]
   ·exact .inl rfl
   ·exact .inr rfl
   ·exact .inr rfl
   ·exact .inl rfl
theorem pick_all (U:List Bool) (m:Nat):∀ (d a:Nat),(∀ j,a≤j→j < a+d→bitAt U (m+j)=true)→(pick U m d a).length=d
 | 0,_,_=>rfl
 | d+1,a,h=>by
  rw [pick,if_pos (h a (Nat.le_refl _) (by omega)),List.length_cons,pick_all U m d (a+1) (fun j h1 h2=>h j (by omega) (by omega))]
theorem trim_trim (m:Nat) (ss:List St) (os:List Int) (ho:InOrder m ss) (hos:∀ x∈os,0≤x∧x < (m:Int)+ss.length):(usedOf m (tSteps m ss os) (tOuts m ss os)).length=(tSteps m ss os).length:=by
 unfold usedOf
 refine pick_all _ m _ 0 (fun j _ hj=>?_)
 rw [Nat.zero_add,tSteps_len] at hj
 obtain ⟨i,hi,hb,e⟩:=pick_inv _ m ss.length j hj
 have h:=trim_used m ss os ho hos (m+ss.length) (m+i) (by omega) (by omega) hb
 have en:(num (marksOf m ss os) m ((m+i:Nat):Int)).toNat=m+j:=by
  unfold num
  rw [if_neg (by omega),show (((m+i:Nat):Int) - m).toNat=i by omega,e]
  omega
 rwa [en] at h
theorem index_ev (xs:List Int) (x:Int) (hl:xs.length≤1000000):Ev (fun k=>slices_Index_int_int.f k xs x) (placeFrom xs x xs.length 0):=by
 have loop:∀ (d i:Nat),i+d=xs.length→Ev (fun k=>slices_Index_int_int.l0 k xs x xs.length i) (placeFrom xs x d i):=by
  intro d
  induction d with
  | zero=>
   intro i hd
   refine ev_shift ?_
   simp only [slices_Index_int_int.l0,if_neg (show ¬ (i:Int) < (xs.length:Int) by omega),placeFrom]
   exact Ev.now _
  | succ d ih=>
   intro i hd
   refine ev_shift ?_
   simp only [slices_Index_int_int.l0,if_pos (show (i:Int) < (xs.length:Int) by omega),if_pos (show (0:Int)≤(i:Int) by omega),w64 (show -9223372036854775808≤(i:Int)+1 by omega) (by omega),placeFrom]
   by_cases c:rd xs (i:Int)=x
   ·simp only [if_pos c,if_pos c.symm];exact Ev.now _
   ·simp only [if_neg c,if_neg (fun e=>c (Eq.symm e))];exact ih (i+1) (by omega)
 exact loop xs.length 0 (by omega)
theorem placeFrom_lt (xs:List Int) (x:Int):∀ (d i:Nat),placeFrom xs x d i < (i:Int)+d
 | 0,i=>by rw [placeFrom];omega
 | d+1,i=>by
  have:=placeFrom_lt xs x d (i+1)
  rw [placeFrom]
  split <;> omega
def ansFrom (xs ts:List Int):Nat→Nat→List Int→Int × List St × List Int × Bool
 | 0,_,acc=>(1,tSteps 1 (stepsOf xs) acc,tOuts 1 (stepsOf xs) acc,true)
 | d+1,i,acc=>if placeFrom xs (rd ts (i:Int)) xs.length 0 < 0 then (0,[],[],false) else ansFrom xs ts d (i+1) (acc++[placeFrom xs (rd ts (i:Int)) xs.length 0])
theorem mem_rd {os:List Int} {n:Int} (h:∀ x∈os,0≤x∧x < n):∀ j:Nat,j < os.length→0≤rd os j∧rd os j≤n - 1:=fun j hj=>by
 have:=h _ (List.getElem_mem hj)
 rw [rd_nat,show os.getD j 0=os[j] by simp [List.getD,hj]]
 omega
theorem both (xs ts:List Int) (c:chain xs=true) (hx:xs.length≤1048576) (ht:ts.length≤6):Ev (fun k=>spec_SequencePlan.f k xs ts) (ansFrom xs ts ts.length 0 [])∧Ev (fun k=>impl_SequencePlan.f k xs ts) (ansFrom xs ts ts.length 0 []):=by
 have hf:=chain_from xs c
 have hsl:(stepsOf xs).length=xs.length - 1:=by unfold stepsOf;rw [stepsFrom_length]
 have hord:=chain_order xs c
 have inr:∀ (acc:List Int) (i:Nat),(∀ x∈acc,0≤x∧x < (xs.length:Int))→¬ placeFrom xs (rd ts (i:Int)) xs.length 0 < 0→∀ x∈acc++[placeFrom xs (rd ts (i:Int)) xs.length 0],0≤x∧x < (xs.length:Int):=fun acc i ha hp x hx=>by
  rcases List.mem_append.1 hx with h|h
  ·exact ha x h
  ·obtain rfl:x=placeFrom xs (rd ts (i:Int)) xs.length 0:=by simpa using h
   have:=placeFrom_lt xs (rd ts (i:Int)) xs.length 0
   omega
 have sl:∀ (d i:Nat) (acc:List Int),i+d=ts.length→acc.length=i→(∀ x∈acc,0≤x∧x < (xs.length:Int))→Ev (fun k=>spec_SequencePlan.l0 k xs ts ts.length i 1 (stepsOf xs) acc) (ansFrom xs ts d i acc):=by
  intro d
  induction d with
  | zero=>
   intro i acc hd hal ha
   have hos:=mem_rd (n:=((1:Nat):Int)+(stepsOf xs).length) (fun x hx=>by have:=ha x hx;omega)
   refine ev_shift ?_
   simp only [spec_SequencePlan.l0,if_neg (show ¬ (i:Int) < (ts.length:Int) by omega)]
   refine ev_bind (plUsed_ev 1 (stepsOf xs) acc (by omega) (by omega) (by omega) (by omega) hord hos) ?_
   refine ev_bind (plKeep_ev 1 (stepsOf xs) acc (by omega) (by omega) (by omega) (by omega) hord hos) ?_
   exact Ev.now _
  | succ d ih=>
   intro i acc hd hal ha
   have hp:=plPlace_ev xs (rd ts (i:Int)) (by omega)
   refine ev_shift ?_
   simp only [spec_SequencePlan.l0,if_pos (show (i:Int) < (ts.length:Int) by omega),if_pos (show (0:Int)≤(i:Int) by omega),w64 (show -9223372036854775808≤(i:Int)+1 by omega) (by omega)]
   refine ev_bind hp ?_
   rw [ansFrom]
   by_cases cp:placeFrom xs (rd ts (i:Int)) xs.length 0 < 0
   ·simp only [if_pos cp];exact Ev.now _
   ·simp only [if_neg cp]
    refine ev_bind hp ?_
    simp only [if_pos (show acc.length < 17592186044416 by omega)]
    exact ih (i+1) _ (by omega) (by simp;omega) (inr acc i ha cp)
 have il:∀ (d i:Nat) (acc:List Int),i+d=ts.length→acc.length=i→(∀ x∈acc,0≤x∧x < (xs.length:Int))→Ev (fun k=>impl_SequencePlan.l0 k xs ts ts.length i 1 (stepsOf xs) acc) (ansFrom xs ts d i acc):=by
  intro d
  induction d with
  | zero=>
   intro i acc hd hal ha
   have hos:=mem_rd (n:=((1:Nat):Int)+(stepsOf xs).length) (fun x hx=>by have:=ha x hx;omega)
   refine ev_shift ?_
   simp only [impl_SequencePlan.l0,if_neg (show ¬ (i:Int) < (ts.length:Int) by omega)]
   refine ev_bind (trimmed_ev 1 (stepsOf xs) acc (by omega) (by omega) (by omega) (by omega) hord hos) ?_
   exact Ev.now _
  | succ d ih=>
   intro i acc hd hal ha
   refine ev_shift ?_
   simp only [impl_SequencePlan.l0,if_pos (show (i:Int) < (ts.length:Int) by omega),if_pos (show (0:Int)≤(i:Int) by omega),w64 (show -9223372036854775808≤(i:Int)+1 by omega) (by omega)]
   refine ev_bind (index_ev xs (rd ts (i:Int)) (by omega)) ?_
   rw [ansFrom]
   by_cases cp:placeFrom xs (rd ts (i:Int)) xs.length 0 < 0
   ·simp only [if_pos cp];exact Ev.now _
   ·simp only [if_neg cp,if_pos (show acc.length < 17592186044416 by omega)]
    exact ih (i+1) _ (by omega) (by simp;omega) (inr acc i ha cp)
 constructor
 ·unfold spec_SequencePlan.f
  refine ev_bind (chGood_ev xs hx) ?_
  simp only [c,if_true,decide_eq_false (show ¬ (ts.length:Int) > 6 by omega)]
  refine ev_shift ?_
  simp only [spec_SequencePlan.j0,Bool.false_eq_true,if_false,spec_chPlan.f,Option.bind_assoc,Option.bind_some]
  refine ev_bind (chSteps_ev xs c) ?_
  exact sl ts.length 0 [] (by omega) rfl (fun x hx=>by cases hx)
 ·unfold impl_SequencePlan.f
  refine ev_bind (isChain_ev xs hx) ?_
  simp only [c,if_true,decide_eq_false (show ¬ (ts.length:Int) > 6 by omega)]
  refine ev_shift ?_
  simp only [impl_SequencePlan.j0,Bool.false_eq_true,if_false,impl_chainPlan.f,Option.bind_assoc,Option.bind_some]
  refine ev_bind (chainSteps_ev xs c) ?_
  exact il ts.length 0 [] (by omega) rfl (fun x hx=>by cases hx)
theorem neither (xs ts:List Int) (hx:xs.length≤1048576) (h : ¬ (chain xs=true∧ts.length≤6)):Ev (fun k=>spec_SequencePlan.f k xs ts) (0,[],[],false)∧Ev (fun k=>impl_SequencePlan.f k xs ts) (0,[],[],false):=by
 constructor
 ·unfold spec_SequencePlan.f
  refine ev_bind (chGood_ev xs hx) ?_
  by_cases c:chain xs=true
  ·simp only [c,if_true,decide_eq_true (show (ts.length:Int) > 6 by have : ¬ ts.length≤6:=fun q=>h ⟨c,q⟩;omega)]
   refine ev_shift ?_
   simp only [spec_SequencePlan.j0,if_true]
   exact Ev.now _
  ·have c' : chain xs=false:=by simpa using c
   simp only [c',Bool.false_eq_true,if_false,Bool.not_false,if_true]
   refine ev_shift ?_
   simp only [spec_SequencePlan.j0,if_true]
   exact Ev.now _
 ·unfold impl_SequencePlan.f
  refine ev_bind (isChain_ev xs hx) ?_
  by_cases c:chain xs=true
  ·simp only [c,if_true,decide_eq_true (show (ts.length:Int) > 6 by have : ¬ ts.length≤6:=fun q=>h ⟨c,q⟩;omega)]
   refine ev_shift ?_
   simp only [impl_SequencePlan.j0,if_true]
   exact Ev.now _
  ·have c' : chain xs=false:=by simpa using c
   simp only [c',Bool.false_eq_true,if_false,Bool.not_false,if_true]
   refine ev_shift ?_
   simp only [impl_SequencePlan.j0,if_true]
   exact Ev.now _
theorem u8_of {x:Int} (h:(Lit.int .u8 x).wf=true):0≤x∧x≤255:=by
 simpa [Lit.wf,IntKind.min,IntKind.max,IntKind.signed,IntKind.bits] using h
theorem rd_u8 {code:List Int} (hc:∀ x∈code,0≤x∧x≤255) (i:Int):0≤rd code i∧rd code i≤255:=by
 unfold rd
 by_cases h:i.toNat < code.length
 ·have:=hc _ (List.getElem_mem h)
  simpa [List.getD,h] using this
 ·simp [List.getD,h]
theorem u64_low (x:Int):0≤wrap64 (Go.bits .and .u64 (IntKind.u64.wrap x / 1099511627776) 255)∧wrap64 (Go.bits .and .u64 (IntKind.u64.wrap x / 1099511627776) 255)≤255:=by
 have h:0≤IntKind.u64.wrap x / 1099511627776∧IntKind.u64.wrap x / 1099511627776 < 2 ^ 32:=by rw [IntKind.wrap_u64];omega
 generalize IntKind.u64.wrap x / 1099511627776=y at h ⊢
 have e:Go.bits .and .u64 y (2 ^ 8 - 1)=y % 2 ^ 8:=bits_mask .u64 32 (by decide) (fun n a b=>by rw [IntKind.wrap_u64];omega) 8 (by decide) y h.1 h.2
 rw [show (255:Int)=2 ^ 8 - 1 by decide,e,w64 (by omega) (by omega)]
 omega
theorem next_ok {code:List Int} (hc:∀ x∈code,0≤x∧x≤255) (at_ seed:Int) (h0:0≤at_) (h1:at_≤1000000000) : ∃ v s,spec_l1Cur_next.f code at_ seed=some (v,at_+1,s)∧0≤v∧v≤255:=by
 unfold spec_l1Cur_next.f
 have w1:wrap64 (at_+1)=at_+1:=w64 (by omega) (by omega)
 obtain ⟨r0,r1⟩:=rd_u8 hc at_
 rw [w1]
 by_cases c:at_ < (code.length:Int)
 ·rw [if_pos c,if_pos h0]
  by_cases d:at_+1≤(code.length:Int)
  ·rw [if_pos d,w64 (by omega) (by omega)]
   exact ⟨_,_,rfl,r0,r1⟩
  ·rw [if_neg d]
   exact ⟨_,_,rfl,u64_low _⟩
 ·rw [if_neg c]
  by_cases d:at_+1≤(code.length:Int)
  ·rw [if_pos d]
   exact ⟨_,_,rfl,by omega,by omega⟩
  ·rw [if_neg d]
   exact ⟨_,_,rfl,u64_low _⟩
theorem pick_ok {code:List Int} (hc:∀ x∈code,0≤x∧x≤255) (at_ seed n:Int) (h0:0≤at_) (h1:at_≤999999000) : ∃ v a s,spec_l1Cur_pick.f code at_ seed n=some (v,a,s)∧0≤v∧(v < n∨v=0)∧at_≤a∧a≤at_+2:=by
 unfold spec_l1Cur_pick.f
 by_cases c:n≤1
 ·rw [if_pos c]
  exact ⟨_,_,_,rfl,by omega,.inr rfl,by omega,by omega⟩
 ·rw [if_neg c]
  obtain ⟨v,s,e,v0,v1⟩:=next_ok hc at_ seed h0 (by omega)
  rw [e,Option.bind_some]
  by_cases d:n > 200
  ·rw [if_pos d]
   obtain ⟨v',s',e',v0',v1'⟩:=next_ok hc (at_+1) s (by omega) (by omega)
   show ∃ v a s,((spec_l1Cur_next.f code (at_+1) _).bind _)=_∧_
   rw [e',Option.bind_some,if_neg (show ¬ n=0 by omega),w64 (show -9223372036854775808≤v*256 by omega) (by omega)]
   have hp:0≤v*256+v':=by omega
   rw [w64 (by omega) (by omega)]
   refine ⟨_,_,_,rfl,Int.tmod_nonneg _ hp,.inl ?_,by show at_≤at_+1+1;omega,by show at_+1+1≤_;omega⟩
   exact Int.tmod_lt_of_pos _ (by omega)
  ·rw [if_neg d,if_neg (show ¬ n=0 by omega)]
   refine ⟨_,_,_,rfl,Int.tmod_nonneg _ v0,.inl ?_,by show at_≤at_+1;omega,by show at_+1≤_;omega⟩
   exact Int.tmod_lt_of_pos _ (by omega)
theorem one_ok {code:List Int} (hc:∀ x∈code,0≤x∧x≤255) (at_ seed n:Int) (h0:0≤at_) (h1:at_≤999999000) : ∃ v a s,spec_l1Cur_one.f code at_ seed n=some (v,a,s)∧at_≤a∧a≤at_+2:=by
 unfold spec_l1Cur_one.f
 obtain ⟨v,a,s,e,_,_,a1,a2⟩:=pick_ok hc at_ seed n h0 h1
 rw [e]
 exact ⟨_,_,_,rfl,a1,a2⟩
theorem among_ok {code:List Int} (hc:∀ x∈code,0≤x∧x≤255) (at_ seed:Int) (l:List Int) (hl:l.length≠0) (h0:0≤at_) (h1:at_≤999999000) : ∃ v a s,spec_l1Cur_among.f code at_ seed l=some (v,a,s)∧at_≤a∧a≤at_+2:=by
 unfold spec_l1Cur_among.f
 obtain ⟨v,a,s,e,v0,v1,a1,a2⟩:=pick_ok hc at_ seed l.length h0 h1
 rw [e,Option.bind_some,if_pos (show (0:Int)≤v from v0),if_pos (show v < (l.length:Int) by omega)]
 exact ⟨_,_,_,rfl,a1,a2⟩
theorem number_ok {code:List Int} (hc:∀ x∈code,0≤x∧x≤255) (at_ seed:Int) (h0:0≤at_) (h1:at_≤900000000) : ∃ v a s,spec_l1Cur_number.f code at_ seed=some (v,a,s)∧at_≤a∧a≤at_+10:=by
 unfold spec_l1Cur_number.f
 obtain ⟨v,a,s,e,v0,v1,a1,a2⟩:=pick_ok hc at_ seed 8 h0 (by omega)
 rw [e,Option.bind_some]
 dsimp only
 by_cases c:v=0
 ·rw [if_pos c]
  obtain ⟨v',a',s',e',b1,b2⟩:=among_ok hc a s [(-1),0,1,2,1000000,1000001] (by decide) (by omega) (by omega)
  rw [e']
  exact ⟨_,_,_,rfl,by show at_≤a';omega,by show a'≤_;omega⟩
 ·rw [if_neg c]
  by_cases d:v=1
  ·rw [if_pos d]
   obtain ⟨v',a',s',e',_,_,b1,b2⟩:=pick_ok hc a s 1000000 (by omega) (by omega)
   rw [e']
   exact ⟨_,_,_,rfl,by show at_≤a';omega,by show a'≤_;omega⟩
  ·rw [if_neg d]
   obtain ⟨v',a',s',e',_,_,b1,b2⟩:=pick_ok hc a s 120 (by omega) (by omega)
   rw [e']
   exact ⟨_,_,_,rfl,by show at_≤a';omega,by show a'≤_;omega⟩
theorem put_ev (xs:List Int) (v:Int) (hl:xs.length≤1000) (hn:xs≠[]) : ∃ ys:List Int,ys≠[]∧ys.length≤xs.length+1∧Ev (fun k=>spec_l1Put.f k xs v) ys:=by
 have fin:∀ i:Nat,i≤xs.length→(([]++xs.take i)++[v])++xs.drop i≠[]∧((([]++xs.take i)++[v])++xs.drop i).length≤xs.length+1:=fun i hi=>by
  refine ⟨by simp,?_⟩
  simp only [List.nil_append,List.length_append,List.length_take,List.length_drop,List.length_singleton]
  omega
 have loop:∀ (d i:Nat),i+d=xs.length→∃ ys:List Int,ys≠[]∧ys.length≤xs.length+1∧Ev (fun k=>spec_l1Put.l0 k xs v i) ys:=by
  intro d
  induction d with
  | zero=>
   intro i hd
   obtain ⟨f1,f2⟩:=fin i (by omega)
   refine ⟨_,f1,f2,ev_shift ?_⟩
   have l1:([]++xs.take i:List Int).length≤1000:=by simp only [List.nil_append,List.length_take];omega
   have l2:(([]++xs.take i:List Int)++[v]).length≤1001:=by rw [List.length_append,List.length_singleton];omega
   simp only [spec_l1Put.l0,if_neg (show ¬ (i:Int) < (xs.length:Int) by omega),Option.bind_some,if_pos (show (0:Int)≤(i:Int) by omega),if_pos (show (i:Int)≤(xs.length:Int) by omega),Int.toNat_natCast,if_pos (show ([]:List Int).length+(xs.take i).length < 17592186044416 by rw [List.length_take];simp only [List.length_nil];omega),if_pos (show ([]++xs.take i:List Int).length < 17592186044416 by omega),if_pos (show (([]++xs.take i:List Int)++[v]).length+(xs.drop i).length < 17592186044416 by rw [List.length_drop];omega)]
   exact Ev.now _
  | succ d ih=>
   intro i hd
   obtain ⟨ys,y1,y2,y3⟩:=ih (i+1) (by omega)
   by_cases c:rd xs (i:Int) < v
   ·refine ⟨ys,y1,y2,ev_shift ?_⟩
    simp only [spec_l1Put.l0,if_pos (show (i:Int) < (xs.length:Int) by omega),if_pos (show (0:Int)≤(i:Int) by omega),if_pos c,w64 (show -9223372036854775808≤(i:Int)+1 by omega) (by omega)]
    exact y3
   ·by_cases e:rd xs (i:Int)=v
    ·refine ⟨xs,hn,by omega,ev_shift ?_⟩
     simp only [spec_l1Put.l0,if_pos (show (i:Int) < (xs.length:Int) by omega),if_pos (show (0:Int)≤(i:Int) by omega),if_neg c,if_pos e]
     exact Ev.now _
    ·obtain ⟨f1,f2⟩:=fin i (by omega)
     refine ⟨_,f1,f2,ev_shift ?_⟩
     have l1:([]++xs.take i:List Int).length≤1000:=by simp only [List.nil_append,List.length_take];omega
     have l2:(([]++xs.take i:List Int)++[v]).length≤1001:=by rw [List.length_append,List.length_singleton];omega
     simp only [spec_l1Put.l0,if_pos (show (i:Int) < (xs.length:Int) by omega),if_neg c,if_neg e,Option.bind_some,if_pos (show (0:Int)≤(i:Int) by omega),if_pos (show (i:Int)≤(xs.length:Int) by omega),Int.toNat_natCast,if_pos (show ([]:List Int).length+(xs.take i).length < 17592186044416 by rw [List.length_take];simp only [List.length_nil];omega),if_pos (show ([]++xs.take i:List Int).length < 17592186044416 by omega),if_pos (show (([]++xs.take i:List Int)++[v]).length+(xs.drop i).length < 17592186044416 by rw [List.length_drop];omega)]
     exact Ev.now _
 exact loop xs.length 0 (by omega)
theorem drawChain_ev {code:List Int} (hc:∀ x∈code,0≤x∧x≤255) (at_ seed n:Int) (h0:0≤at_) (h1:at_≤100000) (hn:n≤100) (hn0:0≤n) : ∃ (ys:List Int) (a s:Int),ys≠[]∧ys.length≤200∧0≤a∧a≤500000∧Ev (fun k=>spec_l1Cur_chain.f k code at_ seed n) (ys,a,s):=by
 unfold spec_l1Cur_chain.f
 obtain ⟨m,q,t,e,m0,m1,q1,q2⟩:=pick_ok hc at_ seed (wrap64 (n+1)) h0 (by omega)
 rw [w64 (by omega) (by omega)] at e m1
 simp only [w64 (show -9223372036854775808≤n+1 by omega) (by omega),e,Option.bind_some]
 have loop:∀ (d:Nat) (xs:List Int) (at_ seed:Int),d≤101→xs≠[]→xs.length+d≤150→0≤at_→at_+100*(d:Int)≤400000→∃ (ys:List Int) (a s:Int),ys≠[]∧ys.length≤200∧0≤a∧a≤500000∧Ev (fun k=>spec_l1Cur_chain.l0 k xs d code at_ seed) (ys,a,s):=by
  intro d
  induction d with
  | zero=>
   intro xs at_ seed hd hx hl h0 h1
   refine ⟨xs,at_,seed,hx,by omega,h0,by omega,ev_shift ?_⟩
   simp only [spec_l1Cur_chain.l0,if_neg (show ¬ ((0:Nat):Int) > 0 by omega)]
   exact Ev.now _
  | succ d ih=>
   intro xs at_ seed hd hx hl h0 h1
   have hp:=List.length_pos_iff.2 hx
   obtain ⟨b,q,t,e,q1,q2⟩:=one_ok hc at_ seed 4 h0 (by omega)
   have hw:wrap64 (((d+1:Nat):Int) - 1)=(d:Int):=by rw [show ((d+1:Nat):Int) - 1=(d:Int) by omega];exact w64 (by omega) (by omega)
   have step:∀ (x:Int) (q t:Int),0≤q→q+100*(d:Int)≤399950→∃ (ys:List Int) (a s:Int),ys≠[]∧ys.length≤200∧0≤a∧a≤500000∧Ev (fun k=>spec_l1Cur_chain.j1 k xs ((d+1:Nat):Int) x code q t) (ys,a,s):=by
    intro x q t g0 g1
    obtain ⟨v,q',t',e',v0,v1,r1,r2⟩:=pick_ok hc q t xs.length g0 (by omega)
    by_cases c:wrap64 (x+rd xs v)≤1000000
    ·obtain ⟨zs,z1,z2,z3⟩:=put_ev xs (wrap64 (x+rd xs v)) (by omega) hx
     obtain ⟨ys,a,s,y1,y2,y3,y4,y5⟩:=ih zs q' t' (by omega) z1 (by omega) (by omega) (by omega)
     refine ⟨ys,a,s,y1,y2,y3,y4,ev_shift ?_⟩
     simp only [spec_l1Cur_chain.j1,e',Option.bind_some,if_pos v0,if_pos (show v < (xs.length:Int) by omega),if_pos c,hw]
     exact ev_bind z3 y5
    ·obtain ⟨ys,a,s,y1,y2,y3,y4,y5⟩:=ih xs q' t' (by omega) hx (by omega) (by omega) (by omega)
     refine ⟨ys,a,s,y1,y2,y3,y4,ev_shift ?_⟩
     simp only [spec_l1Cur_chain.j1,e',Option.bind_some,if_pos v0,if_pos (show v < (xs.length:Int) by omega),if_neg c,hw]
     exact y5
   have w1:wrap64 ((xs.length:Int) - 1)=(xs.length:Int) - 1:=w64 (by omega) (by omega)
   cases b with
   | true=>
    obtain ⟨v,q',t',e',v0,v1,r1,r2⟩:=pick_ok hc q t xs.length (by omega) (by omega)
    obtain ⟨ys,a,s,y1,y2,y3,y4,y5⟩:=step (rd xs v) q' t' (by omega) (by omega)
    refine ⟨ys,a,s,y1,y2,y3,y4,ev_shift ?_⟩
    simp only [spec_l1Cur_chain.l0,if_pos (show ((d+1:Nat):Int) > 0 by omega),w1,if_pos (show (0:Int)≤(xs.length:Int) - 1 by omega),if_pos (show (xs.length:Int) - 1 < (xs.length:Int) by omega),e,e',Option.bind_some,if_true,if_pos v0,if_pos (show v < (xs.length:Int) by omega)]
    exact y5
   | false=>
    obtain ⟨ys,a,s,y1,y2,y3,y4,y5⟩:=step (rd xs ((xs.length:Int) - 1)) q t (by omega) (by omega)
    refine ⟨ys,a,s,y1,y2,y3,y4,ev_shift ?_⟩
    simp only [spec_l1Cur_chain.l0,if_pos (show ((d+1:Nat):Int) > 0 by omega),w1,if_pos (show (0:Int)≤(xs.length:Int) - 1 by omega),if_pos (show (xs.length:Int) - 1 < (xs.length:Int) by omega),e,Option.bind_some,Bool.false_eq_true,if_false]
    exact y5
 obtain ⟨r,rfl⟩:=Int.eq_ofNat_of_zero_le m0
 exact loop r [1] q t (by omega) (by simp) (by simp;omega) (by omega) (by omega)
theorem drawAny_ev {code:List Int} (hc:∀ x∈code,0≤x∧x≤255) (at_ seed n:Int) (h0:0≤at_) (h1:at_≤100000) (hn:n≤100) (hn0:0≤n) : ∃ (ys:List Int) (a s:Int),ys.length≤1000∧0≤a∧a≤1000000∧Ev (fun k=>spec_l1Cur_anyChain.f k code at_ seed n) (ys,a,s):=by
 unfold spec_l1Cur_anyChain.f
 obtain ⟨xs,q,t,x1,x2,x3,x4,x5⟩:=drawChain_ev hc at_ seed n h0 h1 hn hn0
 have hp:=List.length_pos_iff.2 x1
 obtain ⟨v,q',t',e,v0,v1,r1,r2⟩:=pick_ok hc q t 14 x3 (by omega)
 by_cases c0:v=0
 ·obtain ⟨i,q2,t2,e2,i0,i1,s1,s2⟩:=pick_ok hc q' t' xs.length (by omega) (by omega)
  obtain ⟨j,q3,t3,e3,_,_,u1,u2⟩:=pick_ok hc q2 t2 3 (by omega) (by omega)
  refine ⟨xs.set i.toNat (wrap64 (rd xs i+wrap64 (j - 1))),q3,t3,?_,by omega,by omega,ev_bind x5 ?_⟩
  rotate_left
  ·simp only [e,Option.bind_some,if_pos c0,e2,if_pos i0,if_pos (show i < (xs.length:Int) by omega),e3]
   exact Ev.now _
  ·rw [List.length_set];omega
 ·by_cases c1:v=1
  ·obtain ⟨i,q2,t2,e2,i0,i1,s1,s2⟩:=pick_ok hc q' t' 40 (by omega) (by omega)
   refine ⟨xs++[i],q2,t2,?_,by omega,by omega,ev_bind x5 ?_⟩
   rotate_left
   ·simp only [e,Option.bind_some,if_neg c0,if_pos c1,e2,if_pos (show xs.length < 17592186044416 by omega)]
    exact Ev.now _
   ·rw [List.length_append,List.length_singleton];omega
  ·by_cases c2:v=2
   ·refine ⟨[],q',t',by simp,by omega,by omega,ev_bind x5 ?_⟩
    simp only [e,Option.bind_some,if_neg c0,if_neg c1,if_pos c2]
    exact Ev.now _
   ·by_cases c3:v=3
    ·have loop:∀ (d:Nat) (zs:List Int) (at_ seed:Int),zs.length+d=42→0≤at_→at_+10*(d:Int)≤900000→∃ (ys:List Int) (a s:Int),ys.length≤1000∧0≤a∧a≤1000000∧Ev (fun k=>spec_l1Cur_anyChain.l0 k zs code at_ seed) (ys,a,s):=by
      intro d
      induction d with
      | zero=>
       intro zs at_ seed hz h0 h1
       obtain ⟨b,q2,t2,e2,b0,b1,s1,s2⟩:=pick_ok hc at_ seed 2 h0 (by omega)
       refine ⟨zs,q2,t2,by omega,by omega,by omega,ev_shift ?_⟩
       simp only [spec_l1Cur_anyChain.l0,e2,Option.bind_some,w64 (show -9223372036854775808≤41+b by omega) (by omega),if_neg (show ¬ (zs.length:Int) < 41+b by omega)]
       exact Ev.now _
      | succ d ih=>
       intro zs at_ seed hz h0 h1
       obtain ⟨b,q2,t2,e2,b0,b1,s1,s2⟩:=pick_ok hc at_ seed 2 h0 (by omega)
       by_cases c:(zs.length:Int) < 41+b
       ·obtain ⟨ys,a,s,y2,y3,y4,y5⟩:=ih (zs++[wrap64 ((zs.length:Int)+1)]) q2 t2 (by rw [List.length_append,List.length_singleton];omega) (by omega) (by omega)
        refine ⟨ys,a,s,y2,y3,y4,ev_shift ?_⟩
        simp only [spec_l1Cur_anyChain.l0,e2,Option.bind_some,w64 (show -9223372036854775808≤41+b by omega) (by omega),if_pos c,if_pos (show zs.length < 17592186044416 by omega)]
        exact y5
       ·refine ⟨zs,q2,t2,by omega,by omega,by omega,ev_shift ?_⟩
        simp only [spec_l1Cur_anyChain.l0,e2,Option.bind_some,w64 (show -9223372036854775808≤41+b by omega) (by omega),if_neg c]
        exact Ev.now _
     obtain ⟨ys,a,s,y2,y3,y4,y5⟩:=loop 42 [] q' t' (by simp) (by omega) (by omega)
     refine ⟨ys,a,s,y2,y3,y4,ev_bind x5 ?_⟩
     simp only [e,Option.bind_some,if_neg c0,if_neg c1,if_neg c2,if_pos c3]
     exact y5
    ·by_cases c4:v=4
     ·obtain ⟨i,q2,t2,e2,i0,i1,s1,s2⟩:=pick_ok hc q' t' 4 (by omega) (by omega)
      refine ⟨[1,2,4,8,16,32,64,128,256,512,1024,2048,4096,8192,16384,32768,65536,131072,262144,524288]++[786432,wrap64 (786432+wrap64 (131072*i))],q2,t2,?_,by omega,by omega,ev_bind x5 ?_⟩
      rotate_left
      ·simp only [e,Option.bind_some,if_neg c0,if_neg c1,if_neg c2,if_neg c3,if_pos c4,e2,List.length_cons,List.length_nil,Nat.reduceAdd,if_pos (show 22 < 17592186044416 by decide)]
       exact Ev.now _
      ·simp
     ·refine ⟨xs,q',t',by omega,by omega,by omega,ev_bind x5 ?_⟩
      simp only [e,Option.bind_some,if_neg c0,if_neg c1,if_neg c2,if_neg c3,if_neg c4]
      exact Ev.now _
theorem trim_ok (m:Nat) (ss:List St) (os:List Int) (hm:1≤m) (hm2:m≤6) (hs:ss.length≤40) (hol:os.length≤6) (ho:InOrder m ss) (hos:∀ x∈os,0≤x∧x < (m:Int)+ss.length) (hb:∀ r∈exps m ss,∀ e∈r,0≤e∧e≤1000000):planOk m (tSteps m ss os) (tOuts m ss os)=true:=by
 have hT:=trim_order m ss os ho hos
 have hO:=trim_outs m ss os ho hos
 have all_ok:∀ (ys:List Int) (a b:Int),(∀ y∈ys,a≤y∧y≤b)→allFrom ys a b ys.length 0=true:=by
  intro ys a b hh
  have loop:∀ (d i:Nat),i+d=ys.length→allFrom ys a b d i=true:=by
   intro d
   induction d with
   | zero=>intro i _;rfl
   | succ d ih=>
    intro i hd
    rw [allFrom,if_pos (by rw [rd_nat,show ys.getD i 0=ys[i]'(by omega) by simp [List.getD,show i < ys.length by omega]];exact hh _ (List.getElem_mem _))]
    exact ih (i+1) (by omega)
  exact loop ys.length 0 (by omega)
 have hTl:(tSteps m ss os).length≤40:=Nat.le_trans (tSteps_length m ss os) hs
 have hOl:(tOuts m ss os).length≤6:=by unfold tOuts;rw [List.length_map];exact hol
 unfold planOk
 rw [Bool.and_eq_true]
 constructor
 ·unfold impl_IsPlan.formed
  have hst:impl_IsPlan.steps m (tSteps m ss os) (tSteps m ss os).length 0=true:=steps_true m _ _ 0 (fun j _ hj=>hT j (by omega))
  rw [if_pos (by omega),if_pos hTl,if_pos hOl,if_pos hst,outs_all,Bool.not_not]
  exact all_ok _ _ _ (fun y hy=>by have:=hO y hy;omega)
 ·rw [Int.toNat_natCast,goodFrom_eq,List.all_eq_true]
  intro r hr
  exact all_ok r 0 1000000 (hb r (trim_sub m ss os ho hos r hr))
theorem place_hit (xs:List Int) (x:Int):∀ (d i:Nat),¬ placeFrom xs x d i < 0→0≤placeFrom xs x d i∧rd xs (placeFrom xs x d i)=x
 | 0,i,h=>by rw [placeFrom] at h;omega
 | d+1,i,h=>by
  rw [placeFrom] at h ⊢
  by_cases c:rd xs (i:Int)=x
  ·rw [if_pos c];exact ⟨by omega,c⟩
  ·rw [if_neg c] at h ⊢
   exact place_hit xs x d (i+1) h
theorem ans_true (xs ts:List Int):∀ (d i:Nat) (acc:List Int),i+d=ts.length→acc.length=i→(∀ j:Nat,j < i→0≤rd acc j∧rd acc j < xs.length∧rd xs (rd acc j)=rd ts j) →
  ansFrom xs ts d i acc=(0,[],[],false)∨∃ a:List Int,a.length=ts.length∧(∀ j:Nat,j < ts.length→0≤rd a j∧rd a j < xs.length∧rd xs (rd a j)=rd ts j)∧ansFrom xs ts d i acc=(1,tSteps 1 (stepsOf xs) a,tOuts 1 (stepsOf xs) a,true)
 | 0,i,acc,hd,hl,h=>.inr ⟨acc,by omega,fun j hj=>h j (by omega),rfl⟩
 | d+1,i,acc,hd,hl,h=>by
  rw [ansFrom]
  by_cases c:placeFrom xs (rd ts (i:Int)) xs.length 0 < 0
  ·rw [if_pos c];exact .inl rfl
  ·rw [if_neg c]
   obtain ⟨p0,p1⟩:=place_hit xs _ _ _ c
   have p2:=placeFrom_lt xs (rd ts (i:Int)) xs.length 0
   refine ans_true xs ts d (i+1) _ (by omega) (by rw [List.length_append,List.length_singleton];omega) (fun j hj=>?_)
   by_cases e:j=i
   ·subst e
    have:rd (acc++[placeFrom xs (rd ts (j:Int)) xs.length 0]) (j:Int)=placeFrom xs (rd ts (j:Int)) xs.length 0:=by
     have q:∀ p:Int,(acc++[p]).getD acc.length 0=p:=fun p=>by simp [List.getD]
     have q:=q (placeFrom xs (rd ts (j:Int)) xs.length 0)
     rw [hl] at q
     rw [rd_nat]
     exact q
    rw [this]
    exact ⟨p0,by omega,p1⟩
   ·have:rd (acc++[placeFrom xs (rd ts (i:Int)) xs.length 0]) (j:Int)=rd acc j:=by rw [rd_nat,List.getD_eq_getElem?_getD,List.getElem?_append_left (by omega),rd_nat acc,List.getD_eq_getElem?_getD]
    rw [this]
    exact h j (by omega)
theorem sameInts_ev (l:List Int) (hl:l.length≤1000000):Ev (fun k=>laws_pSameInts.f k l l) true:=by
 have loop:∀ (d i:Nat),i+d=l.length→Ev (fun k=>laws_pSameInts.l0 k l l l.length i) true:=by
  intro d
  induction d with
  | zero=>
   intro i hd
   refine ev_shift ?_
   simp only [laws_pSameInts.l0,if_neg (show ¬ (i:Int) < (l.length:Int) by omega)]
   exact Ev.now _
  | succ d ih=>
   intro i hd
   refine ev_shift ?_
   simp only [laws_pSameInts.l0,if_pos (show (i:Int) < (l.length:Int) by omega),if_pos (show (0:Int)≤(i:Int) by omega),if_true,w64 (show -9223372036854775808≤(i:Int)+1 by omega) (by omega)]
   exact ih (i+1) (by omega)
 unfold laws_pSameInts.f
 simp only [if_true]
 exact loop l.length 0 (by omega)
theorem sameSteps_ev (l:List St) (hl:l.length≤1000000):Ev (fun k=>laws_pSameSteps.f k l l) true:=by
 have loop:∀ (d i:Nat),i+d=l.length→Ev (fun k=>laws_pSameSteps.l0 k l l l.length i) true:=by
  intro d
  induction d with
  | zero=>
   intro i hd
   refine ev_shift ?_
   simp only [laws_pSameSteps.l0,if_neg (show ¬ (i:Int) < (l.length:Int) by omega)]
   exact Ev.now _
  | succ d ih=>
   intro i hd
   refine ev_shift ?_
   simp only [laws_pSameSteps.l0,if_pos (show (i:Int) < (l.length:Int) by omega),if_pos (show (0:Int)≤(i:Int) by omega),beq_self_eq_true,Bool.not_true,Bool.or_self,Bool.false_eq_true,if_false,w64 (show -9223372036854775808≤(i:Int)+1 by omega) (by omega)]
   exact ih (i+1) (by omega)
 unfold laws_pSameSteps.f
 simp only [if_true]
 exact loop l.length 0 (by omega)
theorem draw_ev {code:List Int} (hc:∀ x∈code,0≤x∧x≤255) : ∃ xs ts:List Int,xs.length≤1000∧ts.length≤10∧Ev (fun k=>spec_DrawSequencePlan.f k code) (xs,ts):=by
 obtain ⟨xs,a,s,x1,x2,x3,x4⟩:=drawAny_ev hc 0 0 9 (by omega) (by omega) (by omega) (by omega)
 obtain ⟨v,q,t,e,v0,v1,q1,q2⟩:=pick_ok hc a s 4 x2 (by omega)
 have l1:∀ (d:Nat) (ts:List Int) (at_ seed:Int),ts.length+d=7→0≤at_→at_+10*(d:Int)≤900000000→∃ ys:List Int,ys.length≤10∧Ev (fun k=>spec_DrawSequencePlan.l1 k xs ts code at_ seed) (xs,ys):=by
  intro d
  induction d with
  | zero=>
   intro ts at_ seed hz h0 h1
   obtain ⟨b,q2,t2,e2,b0,b1,s1,s2⟩:=pick_ok hc at_ seed 2 h0 (by omega)
   refine ⟨ts,by omega,ev_shift ?_⟩
   simp only [spec_DrawSequencePlan.l1,e2,Option.bind_some,w64 (show -9223372036854775808≤6+b by omega) (by omega),if_neg (show ¬ (ts.length:Int) < 6+b by omega)]
   exact Ev.now _
  | succ d ih=>
   intro ts at_ seed hz h0 h1
   obtain ⟨b,q2,t2,e2,b0,b1,s1,s2⟩:=pick_ok hc at_ seed 2 h0 (by omega)
   by_cases c:(ts.length:Int) < 6+b
   ·obtain ⟨ys,y1,y2⟩:=ih (ts++[1]) q2 t2 (by rw [List.length_append,List.length_singleton];omega) (by omega) (by omega)
    refine ⟨ys,y1,ev_shift ?_⟩
    simp only [spec_DrawSequencePlan.l1,e2,Option.bind_some,w64 (show -9223372036854775808≤6+b by omega) (by omega),if_pos c,if_pos (show ts.length < 17592186044416 by omega)]
    exact y2
   ·refine ⟨ts,by omega,ev_shift ?_⟩
    simp only [spec_DrawSequencePlan.l1,e2,Option.bind_some,w64 (show -9223372036854775808≤6+b by omega) (by omega),if_neg c]
    exact Ev.now _
 have l0:∀ (d:Nat) (ts:List Int) (at_ seed:Int),ts.length+d≤8→0≤at_→at_+100*(d:Int)≤800000000→∃ ys:List Int,ys.length≤10∧Ev (fun k=>spec_DrawSequencePlan.l0 k xs ts d code at_ seed) (xs,ys):=by
  intro d
  induction d with
  | zero=>
   intro ts at_ seed hz h0 h1
   obtain ⟨b,q2,t2,e2,s1,s2⟩:=one_ok hc at_ seed 12 h0 (by omega)
   cases b with
   | true=>
    obtain ⟨ys,y1,y2⟩:=l1 7 [] q2 t2 (by simp) (by omega) (by omega)
    refine ⟨ys,y1,ev_shift ?_⟩
    simp only [spec_DrawSequencePlan.l0,if_neg (show ¬ ((0:Nat):Int) > 0 by omega),e2,Option.bind_some,if_true]
    exact y2
   | false=>
    refine ⟨ts,by omega,ev_shift ?_⟩
    simp only [spec_DrawSequencePlan.l0,if_neg (show ¬ ((0:Nat):Int) > 0 by omega),e2,Option.bind_some,Bool.false_eq_true,if_false]
    exact Ev.now _
  | succ d ih=>
   intro ts at_ seed hz h0 h1
   have hw:wrap64 (((d+1:Nat):Int) - 1)=(d:Int):=by rw [show ((d+1:Nat):Int) - 1=(d:Int) by omega];exact w64 (by omega) (by omega)
   have nxt:∀ (x q t:Int),0≤q→q+100*(d:Int)≤800000000→∃ ys:List Int,ys.length≤10∧Ev (fun k=>spec_DrawSequencePlan.l0 k xs (ts++[x]) d code q t) (xs,ys):=fun x q t g0 g1=>ih (ts++[x]) q t (by rw [List.length_append,List.length_singleton];omega) g0 g1
   have jn:∀ (q t:Int),0≤q→q+50+100*(d:Int)≤800000000→∃ ys:List Int,ys.length≤10∧Ev (fun k=>spec_DrawSequencePlan.j1 k xs ts ((d+1:Nat):Int) false code q t) (xs,ys):=fun q t g0 g1=>by
    obtain ⟨x,q3,t3,e3,s1,s2⟩:=number_ok hc q t g0 (by omega)
    obtain ⟨ys,y1,y2⟩:=nxt x q3 t3 (by omega) (by omega)
    refine ⟨ys,y1,ev_shift ?_⟩
    simp only [spec_DrawSequencePlan.j1,Bool.false_eq_true,if_false,e3,Option.bind_some,if_pos (show ts.length < 17592186044416 by omega),hw]
    exact y2
   by_cases cx:(xs.length:Int) > 0
   ·obtain ⟨b,q2,t2,e2,s1,s2⟩:=one_ok hc at_ seed 10 h0 (by omega)
    cases b with
    | true=>
     obtain ⟨ys,y1,y2⟩:=jn q2 t2 (by omega) (by omega)
     refine ⟨ys,y1,ev_shift ?_⟩
     simp only [spec_DrawSequencePlan.l0,if_pos (show ((d+1:Nat):Int) > 0 by omega),if_pos cx,e2,Option.bind_some,Bool.not_true]
     exact y2
    | false=>
     obtain ⟨x,q3,t3,e3,s3,s4⟩:=among_ok hc q2 t2 xs (by omega) (by omega) (by omega)
     obtain ⟨ys,y1,y2⟩:=nxt x q3 t3 (by omega) (by omega)
     refine ⟨ys,y1,ev_shift ?_⟩
     simp only [spec_DrawSequencePlan.l0,if_pos (show ((d+1:Nat):Int) > 0 by omega),if_pos cx,e2,Option.bind_some,Bool.not_false]
     refine ev_shift ?_
     simp only [spec_DrawSequencePlan.j1,if_true,e3,Option.bind_some,if_pos (show ts.length < 17592186044416 by omega),hw]
     exact y2
   ·obtain ⟨ys,y1,y2⟩:=jn at_ seed h0 (by omega)
    refine ⟨ys,y1,ev_shift ?_⟩
    simp only [spec_DrawSequencePlan.l0,if_pos (show ((d+1:Nat):Int) > 0 by omega),if_neg cx]
    exact y2
 obtain ⟨d,rfl⟩:=Int.eq_ofNat_of_zero_le v0
 obtain ⟨ys,y1,y2⟩:=l0 d [] q t (by simp;omega) (by omega) (by omega)
 refine ⟨xs,ys,x1,y1,?_⟩
 unfold spec_DrawSequencePlan.f
 refine ev_bind x4 ?_
 simp only [e,Option.bind_some]
 exact y2
theorem samePlan_ev (n:Int) (ss:List St) (os:List Int) (h1:ss.length≤1000000) (h2:os.length≤1000000):Ev (fun k=>laws_pSamePlan.f k n ss os n ss os) true:=by
 unfold laws_pSamePlan.f
 simp only [if_true]
 refine ev_bind (sameSteps_ev ss h1) ?_
 simp only [if_true]
 exact ev_bind (sameInts_ev os h2) (Ev.now _)
theorem outRows_ev (n:Nat) (ss:List St) (os:List Int) (hn:n≤6) (hs:ss.length≤40) (hol:os.length≤6) (ho:InOrder n ss) (hos:∀ x∈os,0≤x∧x < (n:Int)+ss.length):Ev (fun k=>impl_Plan_outputExponents.f k n ss os) (os.map (fun x=>rd_L4 (exps n ss) x)):=by
 have hl:(exps n ss).length=n+ss.length:=eTo_length _ _ _
 have hok:=(exps_ok n ss ho).2
 have loop:∀ (d i:Nat) (acc:List (List Int)),i+d=os.length→acc.length+d≤100→Ev (fun k=>impl_Plan_outputExponents.l0 k (exps n ss) acc os os.length i) (acc++(os.drop i).map (fun x=>rd_L4 (exps n ss) x)):=by
  intro d
  induction d with
  | zero=>
   intro i acc hd ha
   refine ev_shift ?_
   rw [List.drop_of_length_le (by omega)]
   simp only [impl_Plan_outputExponents.l0,if_neg (show ¬ (i:Int) < (os.length:Int) by omega),List.map_nil,List.append_nil]
   exact Ev.now _
  | succ d ih=>
   intro i acc hd ha
   have er:rd os (i:Int)=os[i]'(by omega):=by rw [rd_nat];simp [List.getD,show i < os.length by omega]
   have hx:=hos _ (List.getElem_mem (show i < os.length by omega))
   rw [← er] at hx
   have hrow:=(hok _ (rd_mem (exps n ss) (rd os (i:Int)) hx.1 (by rw [hl];omega))).1
   have i1:=ih (i+1) (acc++[rd_L4 (exps n ss) (rd os (i:Int))]) (by omega) (by rw [List.length_append,List.length_singleton];omega)
   rw [List.drop_eq_getElem_cons (show i < os.length by omega),List.map_cons,← er]
   rw [List.append_assoc,List.singleton_append] at i1
   refine ev_shift ?_
   simp only [impl_Plan_outputExponents.l0,if_pos (show (i:Int) < (os.length:Int) by omega),if_pos (show (0:Int)≤(i:Int) by omega),if_pos hx.1,if_pos (show rd os (i:Int) < ((exps n ss).length:Int) by rw [hl];omega),clone_eq (rd_L4 (exps n ss) (rd os (i:Int))) (by omega),Option.bind_some,if_pos (show acc.length < 5864062014805 by omega),w64 (show -9223372036854775808≤(i:Int)+1 by omega) (by omega)]
   exact i1
 unfold impl_Plan_outputExponents.f
 refine ev_bind (exponents_ev n ss os hn hs ho) ?_
 have:=loop os.length 0 [] (by omega) (by simp;omega)
 rw [List.drop_zero,List.nil_append] at this
 exact this
theorem FnSequences:laws_FnSequences.Pure:=by
 intro code more _ _ hcode _ _ _
 have hc:∀ x∈code,0≤x∧x≤255:=fun x hx=>u8_of (hcode x hx)
 refine Ev.rounds (r:=true) ?_
 obtain ⟨g,hg⟩ : ∃ g,laws_big.f code more=some g:=by unfold laws_big.f;split <;> exact ⟨_,rfl⟩
 have e0:∀ q:Bool,(q != q)=false:=fun q=>by cases q <;> rfl
 unfold laws_FnSequences.f
 simp only [hg,Option.bind_some]
 cases g with
 | true=>simp only [if_true];exact Ev.now _
 | false=>
  obtain ⟨xs,ts,x1,x2,hd⟩:=draw_ev hc
  simp only [Bool.false_eq_true,if_false]
  refine ev_bind hd ?_
  have fails:Ev (fun k=>spec_SequencePlan.f k xs ts) (0,[],[],false)→Ev (fun k=>impl_SequencePlan.f k xs ts) (0,[],[],false)→Ev (fun k=>(impl_SequencePlan.f k xs ts).bind fun bt546=>(spec_SequencePlan.f k xs ts).bind fun bt555=>if (bt546.2.2.2 != bt555.2.2.2)=true then laws_FnSequences.j0 k xs ts bt555.2.2.2 true bt546.1 bt546.2.1 bt546.2.2.1 else (laws_pSamePlan.f k bt546.1 bt546.2.1 bt546.2.2.1 bt555.1 bt555.2.1 bt555.2.2.1).bind fun t564=>laws_FnSequences.j0 k xs ts bt555.2.2.2 (!t564) bt546.1 bt546.2.1 bt546.2.2.1) true:=fun s1 s2=>by
   refine ev_bind s2 ?_
   refine ev_bind s1 ?_
   simp only [e0,Bool.false_eq_true,if_false]
   refine ev_bind (samePlan_ev 0 [] [] (by simp) (by simp)) ?_
   refine ev_shift ?_
   simp only [laws_FnSequences.j0,Bool.not_true,Bool.false_eq_true,if_false]
   exact Ev.now _
  by_cases cc:chain xs=true∧ts.length≤6
  ·obtain ⟨c,ct⟩:=cc
   obtain ⟨s1,s2⟩:=both xs ts c (by omega) ct
   rcases ans_true xs ts ts.length 0 [] (by omega) rfl (fun j hj=>absurd hj (Nat.not_lt_zero _)) with q|⟨a,a1,a2,q⟩
   ·rw [q] at s1 s2
    exact fails s1 s2
   ·rw [q] at s1 s2
    obtain ⟨h1,h41,_,_⟩:=chain_from xs c
    have hL:(stepsOf xs).length=xs.length - 1:=by unfold stepsOf;rw [stepsFrom_length]
    have hord:=chain_order xs c
    have haos:∀ x∈a,0≤x∧x < ((1:Nat):Int)+(stepsOf xs).length:=fun x hx=>by
     obtain ⟨j,hj,rfl⟩:=List.mem_iff_getElem.1 hx
     have:=a2 j (by omega)
     have e:rd a (j:Int)=a[j]:=by rw [rd_nat];simp [List.getD,hj]
     rw [e] at this
     omega
    have hb:∀ r∈exps 1 (stepsOf xs),∀ e∈r,0≤e∧e≤1000000:=fun r hr e he=>by
     rw [chain_exps xs c] at hr
     obtain ⟨y,hy,rfl⟩:=List.mem_map.1 hr
     obtain ⟨j,hj,rfl⟩:=List.mem_iff_getElem.1 hy
     have:=chain_le xs c j hj
     have ee:rd xs (j:Int)=xs[j]:=by rw [rd_nat];simp [List.getD,hj]
     rw [ee] at this
     rw [List.mem_singleton.1 he]
     omega
    have hok:=trim_ok 1 (stepsOf xs) a (by omega) (by omega) (by omega) (by omega) hord haos hb
    have hT:=trim_order 1 (stepsOf xs) a hord haos
    have hO:=trim_outs 1 (stepsOf xs) a hord haos
    have htt:=trim_trim 1 (stepsOf xs) a hord haos
    have hTl:(tSteps 1 (stepsOf xs) a).length≤(stepsOf xs).length:=tSteps_length 1 (stepsOf xs) a
    have hOl:(tOuts 1 (stepsOf xs) a).length=ts.length:=by unfold tOuts;rw [List.length_map];exact a1
    have hrow:∀ i:Nat,i < ts.length→rd_L4 ((tOuts 1 (stepsOf xs) a).map (fun x=>rd_L4 (exps 1 (tSteps 1 (stepsOf xs) a)) x)) (i:Int)=[rd ts (i:Int)]:=fun i hi=>by
     have h2:=a2 i hi
     have ea:rd a (i:Int)=a[i]'(by omega):=by rw [rd_nat];simp [List.getD,show i < a.length by omega]
     have hm:rd a (i:Int)∈a:=by rw [ea];exact List.getElem_mem _
     have hf:=(marks_facts 1 (stepsOf xs) a hord haos).1 (rd a (i:Int)).toNat (by rw [Int.toNat_of_nonneg h2.1];exact hm)
     have ht:=trim_exp 1 (stepsOf xs) a hord haos (rd a (i:Int)) h2.1 (haos _ hm).2 (.inr hf)
     have e1:rd_L4 ((tOuts 1 (stepsOf xs) a).map (fun x=>rd_L4 (exps 1 (tSteps 1 (stepsOf xs) a)) x)) (i:Int)=rd_L4 (exps 1 (tSteps 1 (stepsOf xs) a)) (num (marksOf 1 (stepsOf xs) a) 1 (rd a (i:Int))):=by
      rw [ea]
      unfold tOuts
      unfold rd_L4
      rw [Int.toNat_natCast]
      simp [List.getD,show i < a.length by omega]
     rw [e1,ht,chain_exps xs c]
     obtain ⟨v,hv⟩:=Int.eq_ofNat_of_zero_le h2.1
     rw [hv] at h2 ⊢
     have hvl:v < xs.length:=by omega
     have ex:rd xs (v:Int)=xs[v]:=by rw [rd_nat];simp [List.getD,hvl]
     unfold rd_L4
     rw [Int.toNat_natCast,← h2.2.2,ex]
     simp [List.getD,hvl]
    have hout:Ev (fun k=>impl_OutputExponents.f k 1 (tSteps 1 (stepsOf xs) a) (tOuts 1 (stepsOf xs) a)) ((tOuts 1 (stepsOf xs) a).map (fun x=>rd_L4 (exps 1 (tSteps 1 (stepsOf xs) a)) x),true):=by
     unfold impl_OutputExponents.f
     refine ev_bind (isPlan_ev 1 (tSteps 1 (stepsOf xs) a) (tOuts 1 (stepsOf xs) a)) ?_
     have hok' : planOk 1 (tSteps 1 (stepsOf xs) a) (tOuts 1 (stepsOf xs) a)=true:=hok
     simp only [hok',if_true]
     exact ev_bind (outRows_ev 1 _ _ (by omega) (by omega) (by omega) hT hO) (Ev.now _)
    have htrim:Ev (fun k=>impl_IsTrim.f k 1 (tSteps 1 (stepsOf xs) a) (tOuts 1 (stepsOf xs) a)) (true,true):=by
     unfold impl_IsTrim.f
     refine ev_bind (implUsed_ev 1 (tSteps 1 (stepsOf xs) a) (tOuts 1 (stepsOf xs) a)) ?_
     have hok' : planOk 1 (tSteps 1 (stepsOf xs) a) (tOuts 1 (stepsOf xs) a)=true:=hok
     have htt' : (usedOf ((1:Int).toNat) (tSteps 1 (stepsOf xs) a) (tOuts 1 (stepsOf xs) a)).length=(tSteps 1 (stepsOf xs) a).length:=htt
     unfold usedAns
     simp only [hok',if_true,htt',beq_self_eq_true]
     exact Ev.now _
    refine ev_bind s2 ?_
    refine ev_bind s1 ?_
    simp only [e0,Bool.false_eq_true,if_false]
    refine ev_bind (samePlan_ev 1 _ _ (by omega) (by omega)) ?_
    refine ev_shift ?_
    simp only [laws_FnSequences.j0,Bool.not_true,Bool.false_eq_true,if_false,if_true]
    refine ev_bind hout ?_
    refine ev_bind htrim ?_
    have w1:wrap64 ((xs.length:Int) - 1)=((xs.length - 1:Nat):Int):=by rw [w64 (by omega) (by omega)];omega
    have hlen:(((tOuts 1 (stepsOf xs) a).map (fun x=>rd_L4 (exps 1 (tSteps 1 (stepsOf xs) a)) x)).length:Int)=(ts.length:Int):=by rw [List.length_map,hOl]
    have hdec:decide (((tSteps 1 (stepsOf xs) a).length:Int) > ((xs.length - 1:Nat):Int))=false:=decide_eq_false (by omega)
    generalize (tOuts 1 (stepsOf xs) a).map (fun x=>rd_L4 (exps 1 (tSteps 1 (stepsOf xs) a)) x)=rows at hrow hlen ⊢
    simp only [if_true,if_pos hlen,w1,hdec]
    refine ev_shift ?_
    simp only [laws_FnSequences.j1,Bool.false_eq_true,if_false]
    have loop:∀ (d i:Nat),i+d=ts.length→Ev (fun k=>laws_FnSequences.l0 k ts rows rows.length i) true:=by
     intro d
     induction d with
     | zero=>
      intro i hd
      refine ev_shift ?_
      simp only [laws_FnSequences.l0,if_neg (show ¬ (i:Int) < (rows.length:Int) by omega)]
      exact Ev.now _
     | succ d ih=>
      intro i hd
      have r0:rd [rd ts (i:Int)] 0=rd ts (i:Int):=rfl
      refine ev_shift ?_
      simp only [laws_FnSequences.l0,if_pos (show (i:Int) < (rows.length:Int) by omega),if_pos (show (0:Int)≤(i:Int) by omega),hrow i (by omega),List.length_singleton,if_pos (show (0:Int) < ((1:Nat):Int) by decide),if_pos (show (i:Int) < (ts.length:Int) by omega),r0,if_true,w64 (show -9223372036854775808≤(i:Int)+1 by omega) (by omega)]
      exact ih (i+1) (by omega)
    exact loop ts.length 0 (by omega)
  ·obtain ⟨s1,s2⟩:=neither xs ts (by omega) cc
   exact fails s1 s2
end Go.Proofs.Ytdcdaoancmpbeaa.Pure
--sq
