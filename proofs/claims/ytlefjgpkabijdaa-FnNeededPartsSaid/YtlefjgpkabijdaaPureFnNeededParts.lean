import Derived.Test.YtlefjgpkabijdaaMFnNeededPartsx13
namespace Go.Proofs.Ytlefjgpkabijdaa.Pure
open Go.RowKit Go.Proofs.Ytlefjgpkabijdaa.MFnNeededParts Go.Proofs.YtlefjgpkabijdaaW.PrintWords Go.Proofs.YtlefjgpkabijdaaW.PrintLast Go.Proofs.YtlefjgpkabijdaaW.PrintMore
open Go.Proofs.YtlefjgpkabijdaaH Go.Proofs.YtlefjgpkabijdaaB
set_option linter.unusedVariables false
set_option linter.unusedSimpArgs false
theorem w64 {x:Int} (h1 : -9223372036854775808≤x) (h2:x≤9223372036854775807):wrap64 x=x:=by unfold wrap64;omega
theorem rd_nat (xs:List Int) (j:Nat):rd xs (j:Int)=xs.getD j 0:=by unfold rd;rw [Int.toNat_natCast]
theorem ev_shift {α:Type} {g:Nat→Option α} {r:α} (h:Ev (fun k=>g (k+1)) r):Ev g r:=by
 obtain ⟨K,hK⟩:=h
 refine ⟨K+1,fun k hk=>?_⟩
 obtain ⟨m,rfl⟩ : ∃ m,k=m+1:=⟨k - 1,by omega⟩
 exact hK m (by omega)
theorem ev_bind {α β:Type} {g:Nat→Option α} {F:Nat→α→Option β} {a:α} {r:β} (h:Ev g a) (k:Ev (fun n=>F n a) r):Ev (fun n=>(g n).bind (fun x=>F n x)) r:=Ev.bind h k
abbrev St:=S56
def inner (xs:List Int) (k j:Int):Nat→Int→List St
 | 0,_=>[]
 | d+1,i=>if wrap64 (rd xs i+rd xs j)=rd xs k then ⟨i,j⟩ :: inner xs k j d (i+1) else inner xs k j d (i+1)
def outer (xs:List Int) (k:Int):Nat→Int→List St
 | 0,_=>[]
 | d+1,j=>inner xs k j (j+1).toNat 0++outer xs k d (j+1)
def sumsOf (xs:List Int) (k:Int):List St:=outer xs k k.toNat 0
theorem inner_length (xs:List Int) (k j:Int):∀ (d:Nat) (i:Int),(inner xs k j d i).length≤d
 | 0,_=>Nat.le_refl _
 | d+1,i=>by
  have:=inner_length xs k j d (i+1)
  unfold inner
  split
  ·simp only [List.length_cons];omega
  ·omega
theorem spec_inner (xs:List Int) (k j:Int) (r:List St) (hj:0≤j) (hjk:j < k) (hk:k < xs.length) (hl:xs.length≤100000):∀ (d:Nat) (i:Int) (acc:List St),0≤i→i+d=j+1→acc.length+d≤8000000000000 →
  Ev (fun f=>spec_chPairs.l0 f xs k (acc++inner xs k j d i) (j+1)) r→Ev (fun f=>spec_chPairs.l1 f xs k acc j i) r:=by
 intro d
 induction d with
 | zero=>
  intro i acc hi hd _ h
  refine ev_shift ?_
  simp only [spec_chPairs.l1,if_neg (show ¬ i≤j by omega),w64 (show -9223372036854775808≤j+1 by omega) (by omega)]
  simpa [inner] using h
 | succ d ih=>
  intro i acc hi hd hacc h
  refine ev_shift ?_
  simp only [spec_chPairs.l1,if_pos (show i≤j by omega),if_pos hi,if_pos (show i < (xs.length:Int) by omega),if_pos hj,if_pos (show j < (xs.length:Int) by omega),if_pos (show 0≤k by omega),if_pos hk,
   w64 (show -9223372036854775808≤i+1 by omega) (by omega)]
  by_cases c:wrap64 (rd xs i+rd xs j)=rd xs k
  ·simp only [if_pos c,if_pos (show acc.length < 8796093022208 by omega)]
   refine ih (i+1) (acc++[⟨i,j⟩]) (by omega) (by omega) (by simp only [List.length_append,List.length_singleton];omega) ?_
   simpa [inner,c] using h
  ·simp only [if_neg c]
   refine ih (i+1) acc (by omega) (by omega) (by omega) ?_
   simpa [inner,c] using h
theorem spec_outer (xs:List Int) (k:Int) (hk:k < xs.length) (hl:xs.length≤100000):∀ (d:Nat) (j:Int) (acc:List St),0≤j→j+d=k→acc.length+d*100001≤8000000000000 →
  Ev (fun f=>spec_chPairs.l0 f xs k acc j) (acc++outer xs k d j):=by
 intro d
 induction d with
 | zero=>
  intro j acc hj hd _
  refine ev_shift ?_
  simp only [spec_chPairs.l0,if_neg (show ¬ j < k by omega),outer,List.append_nil]
  exact Ev.now _
 | succ d ih=>
  intro j acc hj hd hacc
  refine ev_shift ?_
  simp only [spec_chPairs.l0,if_pos (show j < k by omega)]
  have hi:=inner_length xs k j (j+1).toNat 0
  refine spec_inner xs k j _ hj (by omega) hk hl (j+1).toNat 0 acc (by omega) (by omega) (by omega) ?_
  have h:=ih (j+1) (acc++inner xs k j (j+1).toNat 0) (by omega) (by omega) (by rw [List.length_append];omega)
  simpa [outer] using h
theorem chPairs_ev (xs:List Int) (k:Int) (h0:0≤k) (hk:k < xs.length) (hl:xs.length≤100000):Ev (fun f=>spec_chPairs.f f xs k) (sumsOf xs k):=by
 have h:=spec_outer xs k hk hl k.toNat 0 [] (by omega) (by omega) (by simp only [List.length_nil];omega)
 simpa [sumsOf,spec_chPairs.f] using h
theorem impl_inner (xs:List Int) (k j:Int) (r:List St) (hj:0≤j) (hjk:j < k) (hk:k < xs.length) (hl:xs.length≤100000):∀ (d:Nat) (i:Int) (acc:List St),0≤i→i+d=j+1→acc.length+d≤8000000000000 →
  Ev (fun f=>impl_sums.l0 f xs k (acc++inner xs k j d i) k (j+1)) r→Ev (fun f=>impl_sums.l1 f xs k acc j k j (j+1) i) r:=by
 intro d
 induction d with
 | zero=>
  intro i acc hi hd _ h
  refine ev_shift ?_
  simp only [impl_sums.l1,if_neg (show ¬ i < j+1 by omega),w64 (show -9223372036854775808≤j+1 by omega) (by omega)]
  simpa [inner] using h
 | succ d ih=>
  intro i acc hi hd hacc h
  refine ev_shift ?_
  simp only [impl_sums.l1,if_pos (show i < j+1 by omega),if_pos hi,if_pos (show i < (xs.length:Int) by omega),if_pos hj,if_pos (show j < (xs.length:Int) by omega),if_pos (show 0≤k by omega),if_pos hk,
   w64 (show -9223372036854775808≤i+1 by omega) (by omega)]
  by_cases c:wrap64 (rd xs i+rd xs j)=rd xs k
  ·simp only [if_pos c,if_pos (show acc.length < 8796093022208 by omega)]
   refine ih (i+1) (acc++[⟨i,j⟩]) (by omega) (by omega) (by simp only [List.length_append,List.length_singleton];omega) ?_
   simpa [inner,c] using h
  ·simp only [if_neg c]
   refine ih (i+1) acc (by omega) (by omega) (by omega) ?_
   simpa [inner,c] using h
theorem impl_outer (xs:List Int) (k:Int) (hk:k < xs.length) (hl:xs.length≤100000):∀ (d:Nat) (j:Int) (acc:List St),0≤j→j+d=k→acc.length+d*100001≤8000000000000 →
  Ev (fun f=>impl_sums.l0 f xs k acc k j) (acc++outer xs k d j):=by
 intro d
 induction d with
 | zero=>
  intro j acc hj hd _
  refine ev_shift ?_
  simp only [impl_sums.l0,if_neg (show ¬ j < k by omega),outer,List.append_nil]
  exact Ev.now _
 | succ d ih=>
  intro j acc hj hd hacc
  refine ev_shift ?_
  simp only [impl_sums.l0,if_pos (show j < k by omega),w64 (show -9223372036854775808≤j+1 by omega) (by omega)]
  have hi:=inner_length xs k j (j+1).toNat 0
  refine impl_inner xs k j _ hj (by omega) hk hl (j+1).toNat 0 acc (by omega) (by omega) (by omega) ?_
  have h:=ih (j+1) (acc++inner xs k j (j+1).toNat 0) (by omega) (by omega) (by rw [List.length_append];omega)
  simpa [outer] using h
theorem sums_ev (xs:List Int) (k:Int) (h0:0≤k) (hk:k < xs.length) (hl:xs.length≤100000):Ev (fun f=>impl_sums.f f xs k) (sumsOf xs k):=by
 have h:=impl_outer xs k hk hl k.toNat 0 [] (by omega) (by omega) (by simp only [List.length_nil];omega)
 simpa [sumsOf,impl_sums.f] using h
def risingFrom (xs:List Int):Nat→Int→Bool
 | 0,_=>true
 | d+1,i=>if rd xs i ≥ 1 then (if rd xs i≤1000000 then (if i > 0 then (if rd xs (i - 1) ≥ rd xs i then false else risingFrom xs d (i+1)) else risingFrom xs d (i+1)) else false) else false
def pairsFrom (xs:List Int):Nat→Int→Bool
 | 0,_=>true
 | d+1,k=>if (sumsOf xs k).length=0 then false else pairsFrom xs d (k+1)
def implFrom (xs:List Int):Nat→Int→Bool
 | 0,_=>true
 | d+1,k=>if rd xs k≤rd xs (k - 1) then false else if rd xs k > 1000000 then false else if (sumsOf xs k).length=0 then false else implFrom xs d (k+1)
def chain (xs:List Int):Bool:=if 1≤xs.length∧xs.length≤41 then (if rd xs 0=1 then implFrom xs (xs.length - 1) 1 else false) else false
theorem from_same (xs:List Int):∀ (d:Nat) (i:Int),1≤i→1≤rd xs (i - 1)→(risingFrom xs d i && pairsFrom xs d i)=implFrom xs d i
 | 0,_,_,_=>rfl
 | d+1,i,h1,h2=>by
  unfold risingFrom pairsFrom implFrom
  rw [if_pos (show i > 0 by omega)]
  by_cases c1:rd xs i≤rd xs (i - 1)
  ·rw [if_pos c1,if_pos (show rd xs (i - 1) ≥ rd xs i from c1)]
   split
   ·split <;> rfl
   ·rfl
  ·rw [if_neg c1,if_neg (show ¬ rd xs (i - 1) ≥ rd xs i from c1),if_pos (show rd xs i ≥ 1 by omega)]
   by_cases c2:rd xs i > 1000000
   ·rw [if_pos c2,if_neg (by omega)];rfl
   ·rw [if_neg c2,if_pos (by omega)]
    by_cases c3:(sumsOf xs i).length=0
    ·rw [if_pos c3,if_pos c3,Bool.and_false]
    ·rw [if_neg c3,if_neg c3]
     have e:i+1 - 1=i:=by omega
     exact from_same xs d (i+1) (by omega) (by rw [e];omega)
theorem l1In_eq (a b c:Int):spec_l1In.f a b c=some (decide (b≤a) && decide (a≤c)):=by
 unfold spec_l1In.f
 by_cases h:a ≥ b
 ·rw [if_pos h];simp [show b≤a from h]
 ·rw [if_neg h];simp [show ¬ b≤a from h]
theorem in_eq (a b c:Int):impl_in.f a b c=some (decide (b≤a) && decide (a≤c)):=by
 unfold impl_in.f
 by_cases h:a ≥ b
 ·rw [if_pos h];simp [show b≤a from h]
 ·rw [if_neg h];simp [show ¬ b≤a from h]
theorem rising_ev (xs:List Int) (hl:xs.length≤100000):∀ (d:Nat) (i:Int),0≤i→i+d=xs.length→Ev (fun f=>spec_l1Rising.l0 f xs 1 1000000 xs xs.length i) (risingFrom xs d i):=by
 intro d
 induction d with
 | zero=>
  intro i h0 hd
  refine ev_shift ?_
  simp only [spec_l1Rising.l0,if_neg (show ¬ i < (xs.length:Int) by omega),risingFrom]
  exact Ev.now _
 | succ d ih=>
  intro i h0 hd
  have hn:=ih (i+1) (by omega) (by omega)
  refine ev_shift ?_
  simp only [spec_l1Rising.l0,if_pos (show i < (xs.length:Int) by omega),if_pos h0,w64 (show -9223372036854775808≤i+1 by omega) (by omega),w64 (show -9223372036854775808≤i - 1 by omega) (by omega),l1In_eq,Option.bind_some]
  unfold risingFrom
  by_cases c1:rd xs i ≥ 1
  ·by_cases c2:rd xs i≤1000000
   ·rw [if_pos c1,if_pos c2]
    simp only [decide_eq_true (show 1≤rd xs i from c1),decide_eq_true c2,Bool.and_self,if_true]
    by_cases c3:i > 0
    ·simp only [if_pos c3,if_pos (show 0≤i - 1 by omega),if_pos (show i - 1 < (xs.length:Int) by omega)]
     by_cases c4:rd xs (i - 1) ≥ rd xs i
     ·simp only [if_pos c4];exact Ev.now _
     ·simp only [if_neg c4];exact hn
    ·simp only [if_neg c3];exact hn
   ·rw [if_pos c1,if_neg c2]
    simp only [decide_eq_false c2,Bool.and_false,Bool.false_eq_true,if_false]
    exact Ev.now _
  ·rw [if_neg c1]
   simp only [decide_eq_false (show ¬ 1≤rd xs i from c1),Bool.false_and,Bool.false_eq_true,if_false]
   exact Ev.now _
theorem pairs_ev (xs:List Int) (hl:xs.length≤100000):∀ (d:Nat) (k:Int),0≤k→k+d=xs.length→Ev (fun f=>spec_chGood.l0 f xs k) (pairsFrom xs d k):=by
 intro d
 induction d with
 | zero=>
  intro i h0 hd
  refine ev_shift ?_
  simp only [spec_chGood.l0,if_neg (show ¬ i < (xs.length:Int) by omega),pairsFrom]
  exact Ev.now _
 | succ d ih=>
  intro i h0 hd
  have hn:=ih (i+1) (by omega) (by omega)
  refine ev_shift ?_
  simp only [spec_chGood.l0,if_pos (show i < (xs.length:Int) by omega),w64 (show -9223372036854775808≤i+1 by omega) (by omega)]
  refine ev_bind (chPairs_ev xs i h0 (by omega) hl) ?_
  unfold pairsFrom
  by_cases c:(sumsOf xs i).length=0
  ·simp only [if_pos c,if_pos (show ((sumsOf xs i).length:Int)=0 by omega)];exact Ev.now _
  ·simp only [if_neg c,if_neg (show ¬ ((sumsOf xs i).length:Int)=0 by omega)];exact hn
theorem implFrom_ev (xs:List Int) (hl:xs.length≤100000):∀ (d:Nat) (k:Int),1≤k→k+d=xs.length→Ev (fun f=>impl_IsChain.l0 f xs k) (implFrom xs d k):=by
 intro d
 induction d with
 | zero=>
  intro i h0 hd
  refine ev_shift ?_
  simp only [impl_IsChain.l0,if_neg (show ¬ i < (xs.length:Int) by omega),implFrom]
  exact Ev.now _
 | succ d ih=>
  intro i h0 hd
  have hn:=ih (i+1) (by omega) (by omega)
  refine ev_shift ?_
  simp only [impl_IsChain.l0,if_pos (show i < (xs.length:Int) by omega),if_pos (show 0≤i by omega),w64 (show -9223372036854775808≤i+1 by omega) (by omega),w64 (show -9223372036854775808≤i - 1 by omega) (by omega),if_pos (show 0≤i - 1 by omega),if_pos (show i - 1 < (xs.length:Int) by omega)]
  unfold implFrom
  by_cases c1:rd xs i≤rd xs (i - 1)
  ·simp only [if_pos c1];exact Ev.now _
  ·simp only [if_neg c1]
   by_cases c2:rd xs i > 1000000
   ·simp only [if_pos c2];exact Ev.now _
   ·simp only [if_neg c2]
    refine ev_bind (sums_ev xs i (by omega) (by omega) hl) ?_
    by_cases c:(sumsOf xs i).length=0
    ·simp only [if_pos c,if_pos (show ((sumsOf xs i).length:Int)=0 by omega)];exact Ev.now _
    ·simp only [if_neg c,if_neg (show ¬ ((sumsOf xs i).length:Int)=0 by omega)];exact hn
theorem isChain_ev (xs:List Int) (hl:xs.length≤1048576):Ev (fun f=>impl_IsChain.f f xs) (chain xs):=by
 unfold impl_IsChain.f chain
 simp only [in_eq,Option.bind_some]
 by_cases c:1≤xs.length∧xs.length≤41
 ·simp only [if_pos c,decide_eq_true (show (1:Int)≤xs.length by omega),decide_eq_true (show (xs.length:Int)≤41 by omega),Bool.and_self,if_true,if_pos (show (0:Int) < xs.length by omega)]
  by_cases c1:rd xs 0=1
  ·simp only [if_pos c1]
   refine ev_shift ?_
   simp only [impl_IsChain.j0,c1,bne_self_eq_false,Bool.false_eq_true,if_false]
   exact implFrom_ev xs (by omega) (xs.length - 1) 1 (by omega) (by omega)
  ·simp only [if_neg c1]
   refine ev_shift ?_
   simp only [impl_IsChain.j0,bne_iff_ne.mpr c1,if_true]
   exact Ev.now _
 ·rw [if_neg c]
  have e:(decide ((1:Int)≤xs.length) && decide ((xs.length:Int)≤41))=false:=by
   rw [Bool.and_eq_false_iff,decide_eq_false_iff_not,decide_eq_false_iff_not];omega
  simp only [e,Bool.false_eq_true,if_false]
  refine ev_shift ?_
  simp only [impl_IsChain.j0,if_true]
  exact Ev.now _
theorem chGood_ev (xs:List Int) (hl:xs.length≤1048576):Ev (fun f=>spec_chGood.f f xs) (chain xs):=by
 unfold spec_chGood.f chain
 simp only [l1In_eq,Option.bind_some]
 by_cases c:1≤xs.length∧xs.length≤41
 ·simp only [if_pos c,decide_eq_true (show (1:Int)≤xs.length by omega),decide_eq_true (show (xs.length:Int)≤41 by omega),Bool.and_self,if_true,if_pos (show (0:Int) < xs.length by omega)]
  by_cases c1:rd xs 0=1
  ·simp only [if_pos c1]
   unfold spec_l1Rising.f
   refine ev_bind (rising_ev xs (by omega) xs.length 0 (by omega) (by omega)) ?_
   obtain ⟨n,hn⟩ : ∃ n,xs.length=n+1:=⟨xs.length - 1,by omega⟩
   have e1:risingFrom xs xs.length 0=risingFrom xs n 1:=by
    rw [hn,risingFrom,c1,if_pos (by decide),if_pos (by decide),if_neg (by decide)]
    rfl
   have e2:xs.length - 1=n:=by omega
   rw [e1,e2,← from_same xs n 1 (by omega) (by rw [show (1:Int) - 1=0 from rfl,c1];omega)]
   refine ev_shift ?_
   simp only [spec_chGood.j0]
   cases hr:risingFrom xs n 1 with
   | false=>
    simp only [Bool.not_false,if_true,Bool.false_and]
    exact Ev.now _
   | true=>
    simp only [Bool.not_true,Bool.false_eq_true,if_false,Bool.true_and]
    exact pairs_ev xs (by omega) n 1 (by omega) (by omega)
  ·simp only [if_neg c1]
   refine ev_shift ?_
   simp only [spec_chGood.j0,if_true]
   exact Ev.now _
 ·rw [if_neg c]
  have e:(decide ((1:Int)≤xs.length) && decide ((xs.length:Int)≤41))=false:=by
   rw [Bool.and_eq_false_iff,decide_eq_false_iff_not,decide_eq_false_iff_not];omega
  simp only [e,Bool.false_eq_true,if_false]
  refine ev_shift ?_
  simp only [spec_chGood.j0,if_true]
  exact Ev.now _
theorem implFrom_head (xs:List Int) (d:Nat) (k:Int) (h:implFrom xs (d+1) k=true):(sumsOf xs k).length≠0∧implFrom xs d (k+1)=true∧rd xs (k - 1) < rd xs k∧rd xs k≤1000000:=by
 unfold implFrom at h
 split at h
 ·cases h
 ·split at h
  ·cases h
  ·split at h
   ·cases h
   ·rename_i a b c
    exact ⟨c,h,by omega,by omega⟩
theorem chain_from (xs:List Int) (h:chain xs=true):1≤xs.length∧xs.length≤41∧rd xs 0=1∧implFrom xs (xs.length - 1) 1=true:=by
 unfold chain at h
 split at h
 ·rename_i c
  split at h
  ·rename_i c1
   exact ⟨c.1,c.2,c1,h⟩
  ·cases h
 ·cases h
theorem from_mono (xs:List Int):∀ (d:Nat) (k:Nat),1≤k→implFrom xs d k=true→∀ (a b:Nat),k - 1≤a→a≤b→b < k+d→rd xs (a:Int)≤rd xs (b:Int)
 | 0,k,hk,_,a,b,h1,h2,h3=>by
  obtain rfl:a=b:=by omega
  exact Int.le_refl _
 | d+1,k,hk,h,a,b,h1,h2,h3=>by
  obtain ⟨_,p2,p3,_⟩:=implFrom_head xs d k h
  have ih:=from_mono xs d (k+1) (by omega) (by rw [show ((k+1:Nat):Int)=(k:Int)+1 by omega];exact p2)
  rw [show (k:Int) - 1=((k - 1:Nat):Int) by omega] at p3
  by_cases c:a=k - 1
  ·subst c
   by_cases e:b=k - 1
   ·rw [e];exact Int.le_refl _
   ·have:=ih k b (by omega) (by omega) (by omega)
    omega
  ·exact ih a b (by omega) h2 (by omega)
theorem chain_rises (xs:List Int) (h:chain xs=true):∀ a b:Nat,a≤b→b < xs.length→rd xs (a:Int)≤rd xs (b:Int):=by
 obtain ⟨h1,_,_,h4⟩:=chain_from xs h
 exact fun a b h2 h3=>from_mono xs (xs.length - 1) 1 (Nat.le_refl _) h4 a b (by omega) h2 (by omega)
def ifChain (xs:List Int):List Int × Bool:=if chain xs=true then (xs,true) else ([],false)
theorem ifChain_short (xs:List Int):(ifChain xs).1.length≤1000000:=by
 unfold ifChain
 split
 ·rename_i c;have:=(chain_from xs c).2.1;simp only;omega
 ·simp
theorem chIf_ev (xs:List Int) (hl:xs.length≤1048576):Ev (fun f=>spec_chIf.f f xs) (ifChain xs):=by
 unfold spec_chIf.f ifChain
 refine ev_bind (chGood_ev xs hl) ?_
 by_cases c:chain xs=true
 ·simp only [c,if_true];exact Ev.now _
 ·simp only [if_neg c];exact Ev.now _
theorem told_ev (xs:List Int) (hl:xs.length≤1048576):Ev (fun f=>impl_toldChain.f f xs) (ifChain xs):=by
 unfold impl_toldChain.f ifChain
 refine ev_bind (isChain_ev xs hl) ?_
 by_cases c:chain xs=true
 ·simp only [c,if_true];exact Ev.now _
 ·simp only [if_neg c];exact Ev.now _
abbrev rdS (ss:List St) (i:Int):St:=rd_T56 ss i
theorem outer_length (xs:List Int) (k:Int):∀ (d:Nat) (j:Int),0≤j→j+d≤100000→(outer xs k d j).length≤d*100001
 | 0,_,_,_=>Nat.le_refl _
 | d+1,j,h0,h1=>by
  have h2:=outer_length xs k d (j+1) (by omega) (by omega)
  have h3:=inner_length xs k j (j+1).toNat 0
  unfold outer
  rw [List.length_append]
  omega
theorem sums_length (xs:List Int) (k:Int) (h0:0≤k) (h1:k≤100000):(sumsOf xs k).length≤10000100000:=by
 have:=outer_length xs k k.toNat 0 (by omega) (by omega)
 unfold sumsOf
 omega
def lastOf (ss:List St):St:=rdS ss (ss.length - 1)
def stepsFrom (xs:List Int):Nat→Int→List St
 | 0,_=>[]
 | d+1,k=>lastOf (sumsOf xs k) :: stepsFrom xs d (k+1)
theorem stepsFrom_length (xs:List Int):∀ (d:Nat) (k:Int),(stepsFrom xs d k).length=d
 | 0,_=>rfl
 | d+1,k=>by rw [stepsFrom,List.length_cons,stepsFrom_length xs d (k+1)]
def stepsOf (xs:List Int):List St:=stepsFrom xs (xs.length - 1) 1
theorem chSteps_loop (xs:List Int) (hl:xs.length≤100000):∀ (d:Nat) (k:Int) (acc:List St),1≤k→k+d=xs.length→acc.length+d≤8000000000000→implFrom xs d k=true→Ev (fun f=>spec_chSteps.l0 f xs acc k) (acc++stepsFrom xs d k):=by
 intro d
 induction d with
 | zero=>
  intro k acc h0 hd _ _
  refine ev_shift ?_
  simp only [spec_chSteps.l0,if_neg (show ¬ k < (xs.length:Int) by omega),stepsFrom,List.append_nil]
  exact Ev.now _
 | succ d ih=>
  intro k acc h0 hd ha hi
  obtain ⟨h1,h2,_,_⟩:=implFrom_head xs d k hi
  have h3:=sums_length xs k (by omega) (by omega)
  refine ev_shift ?_
  simp only [spec_chSteps.l0,if_pos (show k < (xs.length:Int) by omega),w64 (show -9223372036854775808≤k+1 by omega) (by omega)]
  refine ev_bind (chPairs_ev xs k (by omega) (by omega) hl) ?_
  simp only [w64 (show -9223372036854775808≤((sumsOf xs k).length:Int) - 1 by omega) (by omega),if_pos (show 0≤((sumsOf xs k).length:Int) - 1 by omega),if_pos (show ((sumsOf xs k).length:Int) - 1 < (sumsOf xs k).length by omega),if_pos (show acc.length < 8796093022208 by omega)]
  have h:=ih (k+1) (acc++[lastOf (sumsOf xs k)]) (by omega) (by omega) (by simp only [List.length_append,List.length_singleton];omega) h2
  simp only [List.append_assoc,List.singleton_append] at h
  exact h
theorem chainSteps_loop (xs:List Int) (hl:xs.length≤100000):∀ (d:Nat) (k:Int) (acc:List St),1≤k→k+d=xs.length→acc.length+d≤8000000000000→implFrom xs d k=true→Ev (fun f=>impl_chainSteps.l0 f xs acc k) (acc++stepsFrom xs d k):=by
 intro d
 induction d with
 | zero=>
  intro k acc h0 hd _ _
  refine ev_shift ?_
  simp only [impl_chainSteps.l0,if_neg (show ¬ k < (xs.length:Int) by omega),stepsFrom,List.append_nil]
  exact Ev.now _
 | succ d ih=>
  intro k acc h0 hd ha hi
  obtain ⟨h1,h2,_,_⟩:=implFrom_head xs d k hi
  have h3:=sums_length xs k (by omega) (by omega)
  refine ev_shift ?_
  simp only [impl_chainSteps.l0,if_pos (show k < (xs.length:Int) by omega),w64 (show -9223372036854775808≤k+1 by omega) (by omega)]
  refine ev_bind (sums_ev xs k (by omega) (by omega) hl) ?_
  simp only [w64 (show -9223372036854775808≤((sumsOf xs k).length:Int) - 1 by omega) (by omega),if_pos (show 0≤((sumsOf xs k).length:Int) - 1 by omega),if_pos (show ((sumsOf xs k).length:Int) - 1 < (sumsOf xs k).length by omega),if_pos (show acc.length < 8796093022208 by omega)]
  have h:=ih (k+1) (acc++[lastOf (sumsOf xs k)]) (by omega) (by omega) (by simp only [List.length_append,List.length_singleton];omega) h2
  simp only [List.append_assoc,List.singleton_append] at h
  exact h
theorem chSteps_ev (xs:List Int) (h:chain xs=true):Ev (fun f=>spec_chSteps.f f xs) (stepsOf xs):=by
 obtain ⟨h1,h2,_,h4⟩:=chain_from xs h
 have:=chSteps_loop xs (by omega) (xs.length - 1) 1 [] (by omega) (by omega) (by simp only [List.length_nil];omega) h4
 simpa [stepsOf,spec_chSteps.f] using this
theorem chainSteps_ev (xs:List Int) (h:chain xs=true):Ev (fun f=>impl_chainSteps.f f xs) (stepsOf xs):=by
 obtain ⟨h1,h2,_,h4⟩:=chain_from xs h
 have:=chainSteps_loop xs (by omega) (xs.length - 1) 1 [] (by omega) (by omega) (by simp only [List.length_nil];omega) h4
 simpa [stepsOf,impl_chainSteps.f] using this
theorem rdS_nat (ss:List St) (j:Nat):rdS ss (j:Int)=ss.getD j z56:=by unfold rdS rd_T56;rw [Int.toNat_natCast]
def allFrom (xs:List Int) (a b:Int):Nat→Int→Bool
 | 0,_=>true
 | d+1,i=>if a≤rd xs i∧rd xs i≤b then allFrom xs a b d (i+1) else false
def InOrder (n:Nat) (ss:List (S56)):Prop:=∀ i:Nat,i < ss.length→0≤(rd_T56 ss i).f0∧(rd_T56 ss i).f0≤(rd_T56 ss i).f1∧(rd_T56 ss i).f1 < n+i
def cap2 (x:Int):Int:=if x < 1000001 then x else 1000001
def sumFrom (a b:List Int):Nat→Int→List Int
 | 0,_=>[]
 | d+1,k=>cap2 (wrap64 (rd a k+rd b k)) :: sumFrom a b d (k+1)
theorem sumFrom_length (a b:List Int):∀ d k,(sumFrom a b d k).length=d
 | 0,_=>rfl
 | d+1,k=>by rw [sumFrom,List.length_cons,sumFrom_length a b d (k+1)]
def addRow (a b:List Int):List Int:=sumFrom a b a.length 0
def row0 (n i:Nat):List Int:=(List.replicate n 0).set i 1
def base0 (n m:Nat):List (List Int):=(List.range m).map (row0 n)
theorem base0_succ (n m:Nat):base0 n (m+1)=base0 n m++[row0 n m]:=by unfold base0;rw [List.range_succ,List.map_append];rfl
theorem base0_length (n m:Nat):(base0 n m).length=m:=by unfold base0;simp
def grow (ss:List (S56)):Nat→Int→List (List Int)→List (List Int)
 | 0,_,rows=>rows
 | d+1,i,rows=>grow ss d (i+1) (rows++[addRow (rd_L3 rows (rd_T56 ss i).f0) (rd_L3 rows (rd_T56 ss i).f1)])
def exps (n:Nat) (ss:List (S56)):List (List Int):=grow ss ss.length 0 (base0 n n)
def RowOk (n:Nat) (r:List Int):Prop:=r.length=n∧∀ e∈r,0≤e∧e≤1000001
def RowsOk (n m:Nat) (rows:List (List Int)):Prop:=rows.length=m∧∀ r∈rows,RowOk n r
theorem rd_mem (rows:List (List Int)) (a:Int) (h0:0≤a) (h1:a < rows.length):rd_L3 rows a∈rows:=by
 unfold rd_L3
 have h:a.toNat < rows.length:=by omega
 rw [show rows.getD a.toNat []=rows[a.toNat] by simp [List.getD,h]]
 exact List.getElem_mem h
theorem rd_in (r:List Int) (n:Nat) (hr:RowOk n r) (i:Int):0≤rd r i∧rd r i≤1000001:=by
 unfold rd
 rw [List.getD_eq_getElem?_getD]
 cases h:r[i.toNat]? with
 | none=>simp
 | some e=>exact hr.2 e (List.mem_of_getElem? h)
theorem sumFrom_ok (n:Nat) (a b:List Int) (ha:RowOk n a) (hb:RowOk n b):∀ d k,∀ e∈sumFrom a b d k,0≤e∧e≤1000001
 | 0,_,e,h=>by cases h
 | d+1,k,e,h=>by
  rw [sumFrom] at h
  rcases List.mem_cons.1 h with rfl|h
  ·have:=rd_in a n ha k
   have:=rd_in b n hb k
   rw [w64 (by omega) (by omega)]
   unfold cap2
   split <;> omega
  ·exact sumFrom_ok n a b ha hb d (k+1) e h
theorem addRow_ok (n:Nat) (a b:List Int) (ha:RowOk n a) (hb:RowOk n b):RowOk n (addRow a b):=⟨by unfold addRow;rw [sumFrom_length];exact ha.1,sumFrom_ok n a b ha hb _ _⟩
theorem base0_ok (n m:Nat):RowsOk n m (base0 n m):=by
 refine ⟨base0_length n m,fun r hr=>?_⟩
 unfold base0 at hr
 obtain ⟨i,_,rfl⟩:=List.mem_map.1 hr
 refine ⟨by unfold row0;simp,fun e he=>?_⟩
 unfold row0 at he
 rcases List.mem_or_eq_of_mem_set he with h|rfl
 ·have:=(List.mem_replicate.1 h).2
  omega
 ·omega
theorem RowsOk.snoc {n m:Nat} {rows:List (List Int)} {r:List Int} (h:RowsOk n m rows) (hr:RowOk n r):RowsOk n (m+1) (rows++[r]):=⟨by rw [List.length_append,h.1];rfl,fun q hq=>by
 rcases List.mem_append.1 hq with h1|h1
 ·exact h.2 q h1
 ·rw [List.mem_singleton.1 h1];exact hr⟩
theorem grow_ok (n:Nat) (ss:List (S56)) (ho:InOrder n ss):∀ (d i:Nat) (rows:List (List Int)),i+d=ss.length→RowsOk n (n+i) rows→RowsOk n (n+ss.length) (grow ss d i rows):=by
 intro d
 induction d with
 | zero=>
  intro i rows hd h
  obtain rfl:i=ss.length:=by omega
  exact h
 | succ d ih=>
  intro i rows hd h
  obtain ⟨h1,h2,h3⟩:=ho i (by omega)
  have hl:=h.1
  rw [grow]
  exact ih (i+1) _ (by omega) (h.snoc (addRow_ok n _ _ (h.2 _ (rd_mem rows _ h1 (by omega))) (h.2 _ (rd_mem rows _ (by omega) (by omega)))))
theorem exps_ok (n:Nat) (ss:List (S56)) (ho:InOrder n ss):RowsOk n (n+ss.length) (exps n ss):=grow_ok n ss ho ss.length 0 _ (by omega) (base0_ok n n)
theorem exponents_ev (n:Nat) (ss:List (S56)) (os:List Int) (hn:n≤6) (hs:ss.length≤40) (ho:InOrder n ss):Ev (fun k=>impl_Plan_exponents.f k n ss os) (exps n ss):=by
 have inner:∀ (rows:List (List Int)) (i:Nat) (A B:Int) (r:List (List Int)),rows.length≤100→RowOk n (rd_L3 rows A)→RowOk n (rd_L3 rows B)→0≤B→B < rows.length→Ev (fun k=>impl_Plan_exponents.l1 k (rows++[addRow (rd_L3 rows A) (rd_L3 rows B)]) ss ss.length (wrap64 ((i:Int)+1))) r→∀ (d:Nat) (j:Int) (acc:List Int),0≤j→j+d=(rd_L3 rows A).length→acc.length+d≤1000000→acc++sumFrom (rd_L3 rows A) (rd_L3 rows B) d j=addRow (rd_L3 rows A) (rd_L3 rows B)→Ev (fun k=>impl_Plan_exponents.l2 k rows acc ss ss.length i (rd_L3 rows A) (rd_L3 rows A).length j A B) r:=by
  intro rows i A B r hl ra rb hb0 hb1 hr d
  induction d with
  | zero=>
   intro j acc h0 hd _ he
   rw [sumFrom,List.append_nil] at he
   refine ev_shift ?_
   simp only [impl_Plan_exponents.l2,if_neg (show ¬ j < ((rd_L3 rows A).length:Int) by omega),if_pos (show rows.length < 5864062014805 by omega)]
   rw [he]
   exact hr
  | succ d ih=>
   intro j acc h0 hd hacc he
   have hlen:(rd_L3 rows B).length=(rd_L3 rows A).length:=by rw [ra.1,rb.1]
   have e:∀ x:Int,mn x 1000001=cap2 x:=fun x=>by
    unfold mn cap2
    split <;> split <;> omega
   refine ev_shift ?_
   simp only [impl_Plan_exponents.l2,if_pos (show j < ((rd_L3 rows A).length:Int) by omega),if_pos h0,if_pos hb0,if_pos hb1,if_pos (show j < ((rd_L3 rows B).length:Int) by omega),if_pos (show acc.length < 17592186044416 by omega),e,w64 (show -9223372036854775808≤j+1 by omega) (by have:=ra.1;omega)]
   rw [sumFrom] at he
   exact ih (j+1) _ (by omega) (by omega) (by simp only [List.length_append,List.length_singleton];omega) (by rw [List.append_assoc,List.singleton_append];exact he)
 have second:∀ (d i:Nat) (rows:List (List Int)),i+d=ss.length→RowsOk n (n+i) rows→Ev (fun k=>impl_Plan_exponents.l1 k rows ss ss.length i) (grow ss d i rows):=by
  intro d
  induction d with
  | zero=>
   intro i rows hd _
   refine ev_shift ?_
   simp only [impl_Plan_exponents.l1,if_neg (show ¬ (i:Int) < (ss.length:Int) by omega),grow]
   exact Ev.now _
  | succ d ih=>
   intro i rows hd h
   obtain ⟨h1,h2,h3⟩:=ho i (by omega)
   have hl:=h.1
   have ra:=h.2 _ (rd_mem rows (rd_T56 ss i).f0 h1 (by omega))
   have rb:=h.2 _ (rd_mem rows (rd_T56 ss i).f1 (by omega) (by omega))
   refine ev_shift ?_
   simp only [impl_Plan_exponents.l1,if_pos (show (i:Int) < (ss.length:Int) by omega),if_pos (show (0:Int)≤(i:Int) by omega),if_pos h1,if_pos (show (rd_T56 ss i).f0 < (rows.length:Int) by omega),grow]
   refine inner rows i _ _ _ (by omega) ra rb (by omega) (by omega) ?_ (rd_L3 rows (rd_T56 ss i).f0).length 0 [] (by omega) (by omega) (by have:=ra.1;simp;omega) (by rw [List.nil_append];rfl)
   rw [w64 (by omega) (by omega)]
   exact ih (i+1) _ (by omega) (h.snoc (addRow_ok n _ _ ra rb))
 have first_:∀ (d i:Nat),i+d=n→Ev (fun k=>impl_Plan_exponents.l0 k (base0 n i) n i n ss os) (exps n ss):=by
  intro d
  induction d with
  | zero=>
   intro i hd
   obtain rfl:i=n:=by omega
   refine ev_shift ?_
   simp only [impl_Plan_exponents.l0,if_neg (show ¬ (i:Int) < (i:Int) by omega)]
   exact second ss.length 0 _ (by omega) (base0_ok i i)
  | succ d ih=>
   intro i hd
   refine ev_shift ?_
   simp only [impl_Plan_exponents.l0,if_pos (show (i:Int) < (n:Int) by omega),if_pos (show (0:Int)≤(n:Int) by omega),Int.toNat_natCast,if_pos (show n≤35184372088832 by omega),Option.bind_some,if_pos (show (0:Int)≤(i:Int) by omega),List.length_replicate,base0_length,if_pos (show i < 5864062014805 by omega),w64 (show -9223372036854775808≤(i:Int)+1 by omega) (by omega)]
   have:=ih (i+1) (by omega)
   rw [base0_succ] at this
   exact this
 exact first_ n 0 (by omega)
def goodFrom (rows:List (List Int)):Nat→Int→Bool
 | 0,_=>true
 | d+1,i=>if allFrom (rd_L3 rows i) 0 1000000 (rd_L3 rows i).length 0=true then goodFrom rows d (i+1) else false
def planOk (n:Int) (ss:List (S56)) (os:List Int):Bool:=impl_IsPlan.formed n ss os && goodFrom (exps n.toNat ss) (exps n.toNat ss).length 0
theorem goodFrom_all (rows:List (List Int)):∀ (xs pre:List (List Int)),rows=pre++xs→goodFrom rows xs.length (pre.length:Int)=xs.all (fun r=>allFrom r 0 1000000 r.length 0)
 | [],pre,_=>rfl
 | x :: xs,pre,h=>by
  have e:rd_L3 rows (pre.length:Int)=x:=by
   unfold rd_L3
   rw [Int.toNat_natCast,h]
   simp [List.getD_eq_getElem?_getD]
  have:=goodFrom_all rows xs (pre++[x]) (by rw [h,List.append_assoc];rfl)
  rw [List.length_append] at this
  rw [List.length_cons,goodFrom,e,List.all_cons]
  cases allFrom x 0 1000000 x.length 0 with
  | true=>rw [if_pos rfl,Bool.true_and,← this];rfl
  | false=>rw [if_neg (by decide),Bool.false_and]
theorem goodFrom_eq (rows:List (List Int)):goodFrom rows rows.length 0=rows.all (fun r=>allFrom r 0 1000000 r.length 0):=goodFrom_all rows rows [] rfl
theorem steps_order (n:Nat) (ss:List (S56)):∀ (d i:Nat),impl_IsPlan.steps n ss d i=true→∀ j,i≤j→j < i+d→0≤(rd_T56 ss j).f0∧(rd_T56 ss j).f0≤(rd_T56 ss j).f1∧(rd_T56 ss j).f1 < n+j:=by
 intro d
 induction d with
 | zero=>intro i _ j h1 h2;omega
 | succ d ih=>
  intro i h j h1 h2
  rw [impl_IsPlan.steps] at h
  by_cases k1:(rd_T56 ss i).f0 < 0
  ·rw [if_pos k1] at h;cases h
  ·rw [if_neg k1] at h
   by_cases k2:(rd_T56 ss i).f0 > (rd_T56 ss i).f1
   ·rw [if_pos k2] at h;cases h
   ·rw [if_neg k2] at h
    by_cases k3:(rd_T56 ss i).f1 ≥ (n:Int)+i
    ·rw [if_pos k3] at h;cases h
    ·rw [if_neg k3] at h
     by_cases e:j=i
     ·subst e;omega
     ·exact ih (i+1) h j (by omega) (by omega)
theorem order_of (n:Nat) (ss:List (S56)) (h:impl_IsPlan.steps n ss ss.length 0=true):InOrder n ss:=fun i hi=>steps_order n ss ss.length 0 h i (by omega) (by omega)
theorem formed_of {n:Int} {ss:List (S56)} {os:List Int} (h:impl_IsPlan.formed n ss os=true):(1≤n∧n≤6)∧ss.length≤40∧os.length≤6∧impl_IsPlan.steps n ss ss.length 0=true∧anyIx (impl_IsPlan.outs n ss os) os.length 0=false:=by
 unfold impl_IsPlan.formed at h
 by_cases c1:1≤n∧n≤6
 ·rw [if_pos c1] at h
  by_cases c2:ss.length≤40
  ·rw [if_pos c2] at h
   by_cases c3:os.length≤6
   ·rw [if_pos c3] at h
    by_cases c4:impl_IsPlan.steps n ss ss.length 0=true
    ·rw [if_pos c4] at h
     exact ⟨c1,c2,c3,c4,by simpa using h⟩
    ·rw [if_neg c4] at h;cases h
   ·rw [if_neg c3] at h;cases h
  ·rw [if_neg c2] at h;cases h
 ·rw [if_neg c1] at h;cases h
def maxFrom (xs:List Int):Nat→Int→Int→Int
 | 0,_,m=>m
 | d+1,i,m=>maxFrom xs d (i+1) (mx m (rd xs i))
theorem max_ev (xs:List Int) (h0:0 < xs.length) (hl:xs.length≤1000000):Ev (fun k=>slices_Max_int_int.f k xs) (maxFrom xs (xs.length - 1) 1 (rd xs 0)):=by
 have loop:∀ (d:Nat) (i m:Int),0≤i→i+d=xs.length→Ev (fun k=>slices_Max_int_int.l0 k xs m i) (maxFrom xs d i m):=by
  intro d
  induction d with
  | zero=>
   intro i m _ hd
   refine ev_shift ?_
   simp only [slices_Max_int_int.l0,if_neg (show ¬ i < (xs.length:Int) by omega),maxFrom]
   exact Ev.now _
  | succ d ih=>
   intro i m h0 hd
   refine ev_shift ?_
   simp only [slices_Max_int_int.l0,if_pos (show i < (xs.length:Int) by omega),if_pos h0,w64 (show -9223372036854775808≤i+1 by omega) (by omega),maxFrom]
   exact ih (i+1) _ (by omega) (by omega)
 unfold slices_Max_int_int.f
 simp only [if_neg (show ¬ (xs.length:Int) < 1 by omega),if_pos (show (0:Int) < (xs.length:Int) by omega)]
 exact loop (xs.length - 1) 1 _ (by omega) (by omega)
theorem max_all (n:Nat) (xs:List Int) (hx:RowOk n xs):∀ (d:Nat) (i m:Int),decide (maxFrom xs d i m > 1000000) = !(decide (m≤1000000) && allFrom xs 0 1000000 d i)
 | 0,i,m=>by
  rw [maxFrom,allFrom,Bool.and_true]
  by_cases c:m≤1000000
  ·rw [decide_eq_true c,decide_eq_false (by omega)];rfl
  ·rw [decide_eq_false c,decide_eq_true (by omega)];rfl
 | d+1,i,m=>by
  have hr:=rd_in xs n hx i
  rw [maxFrom,max_all n xs hx d (i+1),allFrom]
  by_cases c:m≤1000000
  ·rw [decide_eq_true c]
   by_cases c2:rd xs i≤1000000
   ·rw [if_pos ⟨hr.1,c2⟩,decide_eq_true (by unfold mx;split <;> omega)]
   ·rw [if_neg (by omega),decide_eq_false (by unfold mx;split <;> omega)];rfl
  ·rw [decide_eq_false c,decide_eq_false (by unfold mx;split <;> omega)];rfl
theorem top_ev (n:Nat) (hn:1≤n) (hn6:n≤6):∀ (rows:List (List Int)),(∀ r∈rows,RowOk n r)→Ev (fun k=>impl_IsPlan.top k rows) (!(rows.all (fun r=>allFrom r 0 1000000 r.length 0)))
 | [],_=>Ev.now _
 | x :: xs,h=>by
  have hx:=h x (List.mem_cons_self ..)
  have hxl:=hx.1
  refine ev_bind (max_ev x (by omega) (by omega)) ?_
  refine ev_bind (top_ev n hn hn6 xs (fun r hr=>h r (List.mem_cons_of_mem _ hr))) ?_
  have e:decide (maxFrom x (x.length - 1) 1 (rd x 0) > 1000000) = !(allFrom x 0 1000000 x.length 0):=by
   obtain ⟨m,hm⟩ : ∃ m,x.length=m+1:=⟨x.length - 1,by omega⟩
   have hr:=rd_in x n hx 0
   rw [hm,Nat.add_sub_cancel,max_all n x hx,allFrom]
   by_cases c:rd x 0≤1000000
   ·rw [decide_eq_true c,if_pos ⟨hr.1,c⟩,Bool.true_and];rfl
   ·rw [decide_eq_false c,if_neg (by omega)];rfl
  have e2:(decide (maxFrom x (x.length - 1) 1 (rd x 0) > 1000000) || !(xs.all fun r=>allFrom r 0 1000000 r.length 0)) = !((x :: xs).all fun r=>allFrom r 0 1000000 r.length 0):=by
   rw [e,List.all_cons,Bool.not_and]
  simp only [e2]
  exact Ev.now _
theorem isPlan_ev (n:Int) (ss:List (S56)) (os:List Int):Ev (fun k=>impl_IsPlan.f k n ss os) (planOk n ss os):=by
 unfold impl_IsPlan.f planOk
 by_cases c:impl_IsPlan.formed n ss os=true
 ·obtain ⟨h1,h2,h3,h4,h5⟩:=formed_of c
  obtain ⟨m,rfl⟩:=Int.eq_ofNat_of_zero_le (show 0≤n by omega)
  have ho:=order_of m ss h4
  have hok:=exps_ok m ss ho
  simp only [c,if_true,Bool.true_and,Int.toNat_natCast]
  refine ev_bind (exponents_ev m ss os (by omega) h2 ho) ?_
  refine ev_bind (top_ev m (by omega) (by omega) _ hok.2) ?_
  rw [goodFrom_eq,Bool.not_not]
  exact Ev.now _
 ·simp only [Bool.eq_false_iff.mpr c,Bool.false_and]
  exact Ev.now _
theorem outs_all (n:Int) (ss:List (S56)) (os:List Int):∀ (d i:Nat),anyIx (impl_IsPlan.outs n ss os) d i = !(allFrom os 0 (n+ss.length - 1) d i)
 | 0,_=>rfl
 | d+1,i=>by
  have ih:=outs_all n ss os d (i+1)
  rw [anyIx,allFrom,ih]
  unfold impl_IsPlan.outs
  by_cases c:0≤rd os i∧rd os i≤n+ss.length - 1
  ·rw [if_pos c,decide_eq_true c.1,decide_eq_true c.2];rfl
  ·rw [if_neg c]
   have e:(decide (0≤rd os (i:Int)) && decide (rd os (i:Int)≤n+ss.length - 1))=false:=by rw [Bool.and_eq_false_iff,decide_eq_false_iff_not,decide_eq_false_iff_not];omega
   rw [e];rfl
theorem planOk_of {n:Int} {ss:List (S56)} {os:List Int} (h:planOk n ss os=true) : ∃ m:Nat,n=m∧1≤m∧m≤6∧ss.length≤40∧os.length≤6∧InOrder m ss∧(∀ j:Nat,j < os.length→0≤rd os j∧rd os j≤(m:Int)+ss.length - 1)∧∀ r∈exps m ss,∀ e∈r,0≤e∧e≤1000000:=by
 unfold planOk at h
 rw [Bool.and_eq_true] at h
 obtain ⟨h1,h2,h3,h4,h5⟩:=formed_of h.1
 obtain ⟨m,rfl⟩:=Int.eq_ofNat_of_zero_le (show 0≤n by omega)
 have all_rd:∀ (xs:List Int) (a b:Int) (d i:Nat),allFrom xs a b d i=true→∀ j:Nat,i≤j→j < i+d→a≤rd xs j∧rd xs j≤b:=by
  intro xs a b d
  induction d with
  | zero=>intro i _ j h1 h2;omega
  | succ d ih=>
   intro i h j h1 h2
   rw [allFrom] at h
   by_cases c:a≤rd xs i∧rd xs i≤b
   ·rw [if_pos c] at h
    by_cases e:j=i
    ·subst e;exact c
    ·exact ih (i+1) h j (by omega) (by omega)
   ·rw [if_neg c] at h;cases h
 refine ⟨m,rfl,by omega,by omega,h2,h3,order_of m ss h4,fun j hj=>?_,fun r hr e he=>?_⟩
 ·rw [outs_all,Bool.not_eq_false'] at h5
  exact all_rd os _ _ os.length 0 h5 j (by omega) (by omega)
 ·have h6:=h.2
  rw [Int.toNat_natCast,goodFrom_eq] at h6
  have h7:=List.all_eq_true.1 h6 r hr
  obtain ⟨j,hj,rfl⟩:=List.mem_iff_getElem.1 he
  have:=all_rd r 0 1000000 r.length 0 h7 j (by omega) (by omega)
  rw [rd_nat] at this
  simpa [List.getD_eq_getElem?_getD,hj] using this
theorem inner_mem (xs:List Int) (k j:Int) (hj:0≤j):∀ (d:Nat) (i:Int),0≤i→i+d=j+1→∀ s∈inner xs k j d i,0≤s.f0∧s.f0≤j∧s.f1=j∧wrap64 (rd xs s.f0+rd xs s.f1)=rd xs k
 | 0,_,_,_,s,h=>by cases h
 | d+1,i,h0,hd,s,h=>by
  unfold inner at h
  split at h
  ·rename_i c
   rcases List.mem_cons.1 h with rfl|h
   ·exact ⟨h0,by show i≤j;omega,rfl,c⟩
   ·exact inner_mem xs k j hj d (i+1) (by omega) (by omega) s h
  ·exact inner_mem xs k j hj d (i+1) (by omega) (by omega) s h
theorem outer_mem (xs:List Int) (k:Int):∀ (d:Nat) (j:Int),0≤j→j+d=k→∀ s∈outer xs k d j,0≤s.f0∧s.f0≤s.f1∧s.f1 < k∧wrap64 (rd xs s.f0+rd xs s.f1)=rd xs k
 | 0,_,_,_,s,h=>by cases h
 | d+1,j,h0,hd,s,h=>by
  unfold outer at h
  rcases List.mem_append.1 h with h|h
  ·obtain ⟨a,b,c,e⟩:=inner_mem xs k j h0 (j+1).toNat 0 (by omega) (by omega) s h
   exact ⟨a,by omega,by omega,e⟩
  ·exact outer_mem xs k d (j+1) (by omega) (by omega) s h
theorem lastOf_mem (ss:List St) (h:ss.length≠0):lastOf ss∈ss:=by
 unfold lastOf rdS rd_T56
 have e:((ss.length:Int) - 1).toNat < ss.length:=by omega
 generalize ((ss.length:Int) - 1).toNat=q at e ⊢
 rw [show ss.getD q z56=ss[q] by simp [List.getD,e]]
 exact List.getElem_mem e
theorem stepsFrom_get (xs:List Int):∀ (d:Nat) (k:Int) (j:Nat),j < d→rdS (stepsFrom xs d k) (j:Int)=lastOf (sumsOf xs (k+j))
 | 0,_,_,h=>absurd h (Nat.not_lt_zero _)
 | d+1,k,0,_=>by
  rw [rdS_nat,stepsFrom,show k+((0:Nat):Int)=k by omega];rfl
 | d+1,k,j+1,h=>by
  have:=stepsFrom_get xs d (k+1) j (by omega)
  rw [rdS_nat] at this
  rw [rdS_nat,stepsFrom,show k+((j+1:Nat):Int)=k+1+(j:Int) by omega,← this]
  rfl
theorem implFrom_at (xs:List Int):∀ (d:Nat) (k:Int),implFrom xs d k=true→∀ j:Nat,j < d→(sumsOf xs (k+j)).length≠0∧rd xs (k+j)≤1000000∧rd xs (k+j - 1) < rd xs (k+j)
 | 0,_,_,_,h=>absurd h (Nat.not_lt_zero _)
 | d+1,k,hi,0,_=>by
  obtain ⟨a,_,c,e⟩:=implFrom_head xs d k hi
  rw [show k+((0:Nat):Int)=k by omega]
  exact ⟨a,e,c⟩
 | d+1,k,hi,j+1,h=>by
  obtain ⟨_,b,_,_⟩:=implFrom_head xs d k hi
  have:=implFrom_at xs d (k+1) b j (by omega)
  rw [show k+((j+1:Nat):Int)=k+1+(j:Int) by omega]
  exact this
theorem stepOf_fact (xs:List Int) (h:chain xs=true) (j:Nat) (hj:j < xs.length - 1):0≤(rdS (stepsOf xs) j).f0∧(rdS (stepsOf xs) j).f0≤(rdS (stepsOf xs) j).f1∧(rdS (stepsOf xs) j).f1 < 1+(j:Int)∧wrap64 (rd xs (rdS (stepsOf xs) j).f0+rd xs (rdS (stepsOf xs) j).f1)=rd xs (1+(j:Int)):=by
 obtain ⟨h1,h2,h3,h4⟩:=chain_from xs h
 have hs:=(implFrom_at xs _ _ h4 j hj).1
 unfold stepsOf
 rw [stepsFrom_get xs _ _ j hj]
 exact outer_mem xs (1+(j:Int)) (1+(j:Int)).toNat 0 (by omega) (by omega) _ (lastOf_mem _ hs)
theorem chain_le (xs:List Int) (h:chain xs=true) (j:Nat) (hj:j < xs.length):1≤rd xs j∧rd xs j≤1000000:=by
 obtain ⟨h1,h2,h3,h4⟩:=chain_from xs h
 induction j with
 | zero=>rw [show ((0:Nat):Int)=0 by rfl,h3];omega
 | succ j ih=>
  have i:=ih (by omega)
  obtain ⟨_,b,c⟩:=implFrom_at xs _ _ h4 j (by omega)
  rw [show (1:Int)+(j:Int) - 1=(j:Int) by omega] at c
  rw [show ((j+1:Nat):Int)=1+(j:Int) by omega]
  omega
theorem chain_order (xs:List Int) (h:chain xs=true):InOrder 1 (stepsOf xs):=by
 intro i hi
 unfold stepsOf at hi
 rw [stepsFrom_length] at hi
 obtain ⟨a,b,c,_⟩:=stepOf_fact xs h i hi
 exact ⟨a,b,c⟩
theorem chain_exps (xs:List Int) (h:chain xs=true):exps 1 (stepsOf xs)=xs.map (fun c=>[c]):=by
 obtain ⟨h1,h2,h3,h4⟩:=chain_from xs h
 have hsl:(stepsOf xs).length=xs.length - 1:=by unfold stepsOf;rw [stepsFrom_length]
 have rdm:∀ (n:Nat) (a:Int),0≤a→a < n→n≤xs.length→rd_L3 ((xs.take n).map (fun c=>[c])) a=[rd xs a]:=by
  intro n a a0 a1 hn
  obtain ⟨m,rfl⟩:=Int.eq_ofNat_of_zero_le a0
  unfold rd_L3 rd
  rw [Int.toNat_natCast]
  simp only [List.getD_eq_getElem?_getD,List.getElem?_map,List.getElem?_take]
  rw [if_pos (by omega),List.getElem?_eq_getElem (by omega)]
  rfl
 have loop:∀ (d i:Nat),i+d=xs.length - 1→grow (stepsOf xs) d i ((xs.take (i+1)).map (fun c=>[c]))=xs.map (fun c=>[c]):=by
  intro d
  induction d with
  | zero=>
   intro i hd
   rw [grow,List.take_of_length_le (by omega)]
  | succ d ih=>
   intro i hd
   obtain ⟨a,b,c,e⟩:=stepOf_fact xs h i (by omega)
   have hle:=chain_le xs h (i+1) (by omega)
   rw [show ((i+1:Nat):Int)=1+(i:Int) by omega] at hle
   rw [grow,rdm (i+1) _ a (show (rdS (stepsOf xs) i).f0 < ((i+1:Nat):Int) by omega) (by omega),rdm (i+1) _ (show 0≤(rdS (stepsOf xs) i).f1 by omega) (show (rdS (stepsOf xs) i).f1 < ((i+1:Nat):Int) by omega) (by omega)]
   have e2:addRow [rd xs (rdS (stepsOf xs) i).f0] [rd xs (rdS (stepsOf xs) i).f1]=[rd xs (1+(i:Int))]:=by
    show [cap2 (wrap64 (rd xs (rdS (stepsOf xs) i).f0+rd xs (rdS (stepsOf xs) i).f1))]=_
    rw [e]
    unfold cap2
    rw [if_pos (by omega)]
   rw [e2]
   have e3:(xs.take (i+1)).map (fun c=>[c])++[[rd xs (1+(i:Int))]]=(xs.take (i+1+1)).map (fun c=>[c]):=by
    rw [List.take_succ_eq_append_getElem (show i+1 < xs.length by omega),List.map_append]
    have:rd xs (1+(i:Int))=xs[i+1]:=by
     rw [show (1:Int)+(i:Int)=((i+1:Nat):Int) by omega,rd_nat]
     simp [List.getD,show i+1 < xs.length by omega]
    rw [this]
    rfl
   rw [e3]
   exact ih (i+1) (by omega)
 unfold exps
 rw [hsl]
 have e0:base0 1 1=(xs.take (0+1)).map (fun c=>[c]):=by
  obtain ⟨x,t,rfl⟩ : ∃ x t,xs=x :: t:=by cases xs with
   | nil=>simp at h1
   | cons x t=>exact ⟨x,t,rfl⟩
  have:x=1:=h3
  rw [this]
  rfl
 rw [e0]
 exact loop (xs.length - 1) 0 (by omega)
theorem steps_true (n:Nat) (ss:List St):∀ (d i:Nat),(∀ j:Nat,i≤j→j < i+d→0≤(rdS ss j).f0∧(rdS ss j).f0≤(rdS ss j).f1∧(rdS ss j).f1 < n+j)→impl_IsPlan.steps n ss d i=true
 | 0,_,_=>rfl
 | d+1,i,h=>by
  obtain ⟨a,b,c⟩:=h i (by omega) (by omega)
  rw [impl_IsPlan.steps,if_neg (by show ¬ (rdS ss i).f0 < 0;omega),if_neg (by show ¬ (rdS ss i).f0 > (rdS ss i).f1;omega),if_neg (by show ¬ (rdS ss i).f1 ≥ (n:Int)+i;omega)]
  exact steps_true n ss d (i+1) (fun j h1 h2=>h j (by omega) (by omega))
theorem chain_planOk (xs:List Int) (h:chain xs=true) (os:List Int) (ho:os.length≤6) (hr:∀ j:Nat,j < os.length→0≤rd os j∧rd os j≤(xs.length:Int) - 1):planOk 1 (stepsOf xs) os=true:=by
 obtain ⟨h1,h2,h3,h4⟩:=chain_from xs h
 have hsl:(stepsOf xs).length=xs.length - 1:=by unfold stepsOf;rw [stepsFrom_length]
 have hord:=chain_order xs h
 have all_ok:∀ (ys:List Int) (a b:Int) (d i:Nat),(∀ j:Nat,i≤j→j < i+d→a≤rd ys j∧rd ys j≤b)→allFrom ys a b d i=true:=by
  intro ys a b d
  induction d with
  | zero=>intro i _;rfl
  | succ d ih=>
   intro i hh
   rw [allFrom,if_pos (hh i (by omega) (by omega))]
   exact ih (i+1) (fun j a1 a2=>hh j (by omega) (by omega))
 unfold planOk
 rw [Bool.and_eq_true]
 constructor
 ·unfold impl_IsPlan.formed
  have hst:impl_IsPlan.steps 1 (stepsOf xs) (stepsOf xs).length 0=true:=steps_true 1 (stepsOf xs) (stepsOf xs).length 0 (fun j _ hj=>hord j (by omega))
  rw [if_pos (by omega),if_pos (by omega),if_pos ho,if_pos hst,outs_all,Bool.not_not]
  exact all_ok os _ _ os.length 0 (fun j _ hj=>by have:=hr j (by omega);omega)
 ·show goodFrom (exps 1 (stepsOf xs)) (exps 1 (stepsOf xs)).length 0=true
  rw [chain_exps xs h,goodFrom_eq,List.all_eq_true]
  intro r hrr
  obtain ⟨c,hc,rfl⟩:=List.mem_map.1 hrr
  obtain ⟨j,hj,rfl⟩:=List.mem_iff_getElem.1 hc
  have:=chain_le xs h j hj
  rw [rd_nat] at this
  have e:xs.getD j 0=xs[j]:=by simp [List.getD,hj]
  rw [e] at this
  exact all_ok [xs[j]] 0 1000000 1 0 (fun q _ hq=>by
   obtain rfl:q=0:=by omega
   show 0≤xs[j]∧xs[j]≤1000000
   omega)
def hasFrom (ys:List Int) (x:Int):Nat→Int→Bool
 | 0,_=>false
 | d+1,i=>if rd ys i=x then true else hasFrom ys x d (i+1)
def has (ys:List Int) (x:Int):Bool:=hasFrom ys x ys.length 0
theorem hasFrom_at (ys:List Int) (x:Int):∀ (d:Nat) (i:Int),hasFrom ys x d i=true→∃ j,i≤j∧j < i+d∧rd ys j=x
 | 0,_,h=>by cases h
 | d+1,i,h=>by
  unfold hasFrom at h
  split at h
  ·rename_i c;exact ⟨i,by omega,by omega,c⟩
  ·obtain ⟨j,h1,h2,h3⟩:=hasFrom_at ys x d (i+1) h
   exact ⟨j,by omega,by omega,h3⟩
theorem hasFrom_mk (ys:List Int) (x:Int):∀ (d:Nat) (i j:Int),i≤j→j < i+d→rd ys j=x→hasFrom ys x d i=true
 | 0,_,_,_,_,_=>by omega
 | d+1,i,j,h1,h2,h3=>by
  unfold hasFrom
  split
  ·rfl
  ·rename_i c
   by_cases e:i=j
   ·subst e;exact absurd h3 c
   ·exact hasFrom_mk ys x d (i+1) j (by omega) (by omega) h3
theorem has_iff (ys:List Int) (x:Int):has ys x=true↔∃ j:Int,0≤j∧j < ys.length∧rd ys j=x:=by
 constructor
 ·intro h
  obtain ⟨j,h1,h2,h3⟩:=hasFrom_at ys x ys.length 0 h
  exact ⟨j,h1,by omega,h3⟩
 ·rintro ⟨j,h1,h2,h3⟩
  exact hasFrom_mk ys x ys.length 0 j h1 (by omega) h3
theorem rd_ne (xs:List Int) (i:Nat) (h:i < xs.length):rd xs (i:Int)=xs[i]:=by rw [rd_nat];simp [List.getD,h]
theorem has_mem (ys:List Int) (x:Int):has ys x=decide (x∈ys):=by
 rw [Bool.eq_iff_iff,decide_eq_true_iff,has_iff]
 constructor
 ·rintro ⟨j,h0,h1,h2⟩
  obtain ⟨j,rfl⟩:=Int.eq_ofNat_of_zero_le h0
  rw [rd_ne ys j (by omega)] at h2
  exact List.mem_iff_getElem.2 ⟨j,by omega,h2⟩
 ·intro h
  obtain ⟨j,h1,h2⟩:=List.mem_iff_getElem.1 h
  exact ⟨j,by omega,by omega,by rw [rd_ne ys j h1];exact h2⟩
theorem drop_cons (xs:List Int) (i:Nat) (h:i < xs.length):xs.drop i=rd xs (i:Int) :: xs.drop (i+1):=by rw [rd_ne xs i h];exact List.drop_eq_getElem_cons h
theorem from_strict (xs:List Int):∀ (d:Nat) (k:Nat),1≤k→implFrom xs d k=true→∀ (a b:Nat),k - 1≤a→a < b→b < k+d→rd xs (a:Int) < rd xs (b:Int)
 | 0,k,hk,_,a,b,h1,h2,h3=>by omega
 | d+1,k,hk,h,a,b,h1,h2,h3=>by
  obtain ⟨_,p2,p3,_⟩:=implFrom_head xs d k h
  have ih:=from_strict xs d (k+1) (by omega) (by rw [show ((k+1:Nat):Int)=(k:Int)+1 by omega];exact p2)
  rw [show (k:Int) - 1=((k - 1:Nat):Int) by omega] at p3
  by_cases c:a=k - 1
  ·subst c
   by_cases e:b=k
   ·rw [e];exact p3
   ·have:=ih k b (by omega) (by omega) (by omega)
    omega
  ·exact ih a b (by omega) h2 (by omega)
theorem chain_strict (xs:List Int) (h:chain xs=true):xs.Pairwise (· < ·):=by
 obtain ⟨h1,_,_,h4⟩:=chain_from xs h
 refine List.pairwise_iff_getElem.2 (fun i j hi hj hij=>?_)
 have:=from_strict xs (xs.length - 1) 1 (Nat.le_refl _) h4 i j (by omega) hij (by omega)
 rwa [rd_ne xs i hi,rd_ne xs j hj] at this
theorem l1Has_ev (ys:List Int) (x:Int) (hl:ys.length≤100000000):Ev (fun f=>spec_l1Has.f f ys x) (has ys x):=by
 have loop:∀ (d:Nat) (i:Int),0≤i→i+d=ys.length→Ev (fun f=>spec_l1Has.l0 f x ys ys.length i) (hasFrom ys x d i):=by
  intro d
  induction d with
  | zero=>
   intro i h0 hd
   refine ev_shift ?_
   simp only [spec_l1Has.l0,if_neg (show ¬ i < (ys.length:Int) by omega),hasFrom]
   exact Ev.now _
  | succ d ih=>
   intro i h0 hd
   have hn:=ih (i+1) (by omega) (by omega)
   refine ev_shift ?_
   simp only [spec_l1Has.l0,if_pos (show i < (ys.length:Int) by omega),if_pos h0,w64 (show -9223372036854775808≤i+1 by omega) (by omega)]
   unfold hasFrom
   by_cases c:rd ys i=x
   ·rw [if_pos c];simp only [if_pos c];exact Ev.now _
   ·rw [if_neg c];simp only [if_neg c];exact hn
 exact loop ys.length 0 (by omega) (by omega)
def place (xs:List Int) (x:Int):Nat→Nat→Nat
 | 0,i=>i
 | d+1,i=>if rd xs (i:Int) < x then place xs x d (i+1) else i
def putAt (xs:List Int) (x:Int) (k:Nat):List Int:=if k < xs.length∧rd xs (k:Int)=x then xs else xs.take k++x :: xs.drop k
def put (xs:List Int) (x:Int):List Int:=putAt xs x (place xs x xs.length 0)
theorem place_le (xs:List Int) (x:Int):∀ (d i:Nat),place xs x d i≤i+d
 | 0,i=>Nat.le_refl _
 | d+1,i=>by
  unfold place
  split
  ·have:=place_le xs x d (i+1);omega
  ·omega
theorem place_low (xs:List Int) (x:Int):∀ (d i m:Nat),i≤m→m < place xs x d i→rd xs (m:Int) < x
 | 0,i,m,h1,h2=>by unfold place at h2;omega
 | d+1,i,m,h1,h2=>by
  unfold place at h2
  split at h2
  ·rename_i c
   by_cases e:i=m
   ·subst e;exact c
   ·exact place_low xs x d (i+1) m (by omega) h2
  ·omega
theorem place_high (xs:List Int) (x:Int):∀ (d i:Nat),place xs x d i < i+d→¬ rd xs (place xs x d i:Int) < x
 | 0,i,h=>by unfold place at h;omega
 | d+1,i,h=>by
  unfold place at h ⊢
  split
  ·rename_i c
   rw [if_pos c] at h
   exact place_high xs x d (i+1) (by omega)
  ·assumption
theorem place_eq (xs:List Int) (x:Int) (k:Nat) (hk:k≤xs.length) (h1:∀ m:Nat,m < k→rd xs (m:Int) < x) (h2:k < xs.length→¬ rd xs (k:Int) < x):place xs x xs.length 0=k:=by
 have a:=place_le xs x xs.length 0
 rcases Nat.lt_trichotomy (place xs x xs.length 0) k with c|c|c
 ·exact absurd (h1 _ c) (place_high xs x xs.length 0 (by omega))
 ·exact c
 ·exact absurd (place_low xs x xs.length 0 k (by omega) c) (h2 (by omega))
theorem l1Put_ev (xs:List Int) (x:Int) (hl:xs.length≤100000000):Ev (fun f=>spec_l1Put.f f xs x) (put xs x):=by
 have loop:∀ (d i:Nat),i+d=xs.length→Ev (fun f=>spec_l1Put.l0 f xs x i) (putAt xs x (place xs x d i)):=by
  intro d
  induction d with
  | zero=>
   intro i hd
   refine ev_shift ?_
   have l1:([]++xs.take i:List Int).length≤100000000:=by simp only [List.nil_append,List.length_take];omega
   have l2:(([]++xs.take i:List Int)++[x]).length≤100000001:=by rw [List.length_append,List.length_singleton];omega
   simp only [spec_l1Put.l0,if_neg (show ¬ (i:Int) < (xs.length:Int) by omega),Option.bind_some,if_pos (show (0:Int)≤(i:Int) by omega),if_pos (show (i:Int)≤(xs.length:Int) by omega),Int.toNat_natCast,if_pos (show ([]:List Int).length+(xs.take i).length < 17592186044416 by rw [List.length_take];simp only [List.length_nil];omega),if_pos (show ([]++xs.take i:List Int).length < 17592186044416 by omega),if_pos (show (([]++xs.take i:List Int)++[x]).length+(xs.drop i).length < 17592186044416 by rw [List.length_drop];omega)]
   unfold place putAt
   rw [if_neg (by omega),List.nil_append,List.append_assoc]
   exact Ev.now _
  | succ d ih=>
   intro i hd
   have ih1:=ih (i+1) (by omega)
   unfold place
   by_cases c:rd xs (i:Int) < x
   ·rw [if_pos c]
    refine ev_shift ?_
    simp only [spec_l1Put.l0,if_pos (show (i:Int) < (xs.length:Int) by omega),if_pos (show (0:Int)≤(i:Int) by omega),if_pos c,w64 (show -9223372036854775808≤(i:Int)+1 by omega) (by omega)]
    exact ih1
   ·rw [if_neg c]
    by_cases e:rd xs (i:Int)=x
    ·refine ev_shift ?_
     simp only [spec_l1Put.l0,if_pos (show (i:Int) < (xs.length:Int) by omega),if_pos (show (0:Int)≤(i:Int) by omega),if_neg c,if_pos e]
     unfold putAt
     rw [if_pos ⟨by omega,e⟩]
     exact Ev.now _
    ·refine ev_shift ?_
     have l1:([]++xs.take i:List Int).length≤100000000:=by simp only [List.nil_append,List.length_take];omega
     have l2:(([]++xs.take i:List Int)++[x]).length≤100000001:=by rw [List.length_append,List.length_singleton];omega
     simp only [spec_l1Put.l0,if_pos (show (i:Int) < (xs.length:Int) by omega),if_neg c,if_neg e,Option.bind_some,if_pos (show (0:Int)≤(i:Int) by omega),if_pos (show (i:Int)≤(xs.length:Int) by omega),Int.toNat_natCast,if_pos (show ([]:List Int).length+(xs.take i).length < 17592186044416 by rw [List.length_take];simp only [List.length_nil];omega),if_pos (show ([]++xs.take i:List Int).length < 17592186044416 by omega),if_pos (show (([]++xs.take i:List Int)++[x]).length+(xs.drop i).length < 17592186044416 by rw [List.length_drop];omega)]
     unfold putAt
     rw [if_neg (fun h=>e h.2),List.nil_append,List.append_assoc]
     exact Ev.now _
 exact loop xs.length 0 (by omega)
theorem put_length (xs:List Int) (x:Int):(put xs x).length≤xs.length+1:=by
 unfold put putAt
 split
 ·omega
 ·rw [List.length_append,List.length_cons,List.length_take,List.length_drop];omega
def found (xs:List Int) (x:Int) (k:Nat):Bool:=decide (k < xs.length∧rd xs (k:Int)=x)
theorem bins_loop (xs:List Int) (x:Int) (hl:xs.length≤100000000):∀ (d i j:Nat),i≤j→j≤xs.length→j - i≤d →
  ∃ m:Nat,i≤m∧m≤j∧Ev (fun f=>slices_BinarySearch_int_int.l0 f xs x xs.length i j) ((m:Int),found xs x m) ∧
   ((∀ a b:Nat,a≤b→b < xs.length→rd xs (a:Int)≤rd xs (b:Int))→(∀ a:Nat,a < i→rd xs (a:Int) < x)→(j < xs.length→¬ rd xs (j:Int) < x)→(∀ a:Nat,a < m→rd xs (a:Int) < x)∧(m < xs.length→¬ rd xs (m:Int) < x))
 | d,i,j,hij,hj,hd=>by
  by_cases c:i < j
  ·obtain ⟨d',rfl⟩ : ∃ d',d=d' + 1:=⟨d - 1,by omega⟩
   have hw:IntKind.u64.wrap (wrap64 ((i:Int)+(j:Int)))=(i:Int)+(j:Int):=by
    rw [w64 (by omega) (by omega),IntKind.wrap_u64];omega
   have hh:wrap64 (((i:Int)+(j:Int)) / 2)=(((i+j) / 2:Nat):Int):=by rw [w64 (by omega) (by omega)];omega
   obtain ⟨h,eh⟩ : ∃ h,h=(i+j) / 2:=⟨_,rfl⟩
   rw [← eh] at hh
   have hi1:i≤h:=by omega
   have hj1:h < j:=by omega
   have less:cmp_Less_int.f (rd xs (h:Int)) x=some (decide (rd xs (h:Int) < x)):=by
    unfold cmp_Less_int.f cmp_isNaN_int.f
    simp
   by_cases cl:rd xs (h:Int) < x
   ·obtain ⟨m,m1,m2,m3,m4⟩:=bins_loop xs x hl d' (h+1) j (by omega) hj (by omega)
    refine ⟨m,by omega,m2,ev_shift ?_,fun hs ha hb=>m4 hs (fun a ha'=>?_) hb⟩
    ·simp only [slices_BinarySearch_int_int.l0,if_pos (show (i:Int) < (j:Int) by omega),hw,hh,if_pos (show (0:Int)≤(h:Int) by omega),if_pos (show (h:Int) < (xs.length:Int) by omega),less,Option.bind_some,decide_eq_true cl,if_true,w64 (show -9223372036854775808≤(h:Int)+1 by omega) (by omega)]
     exact m3
    ·have:=hs a h (by omega) (by omega)
     omega
   ·obtain ⟨m,m1,m2,m3,m4⟩:=bins_loop xs x hl d' i h (by omega) (by omega) (by omega)
    refine ⟨m,m1,by omega,ev_shift ?_,fun hs ha hb=>m4 hs ha (fun _=>cl)⟩
    simp only [slices_BinarySearch_int_int.l0,if_pos (show (i:Int) < (j:Int) by omega),hw,hh,if_pos (show (0:Int)≤(h:Int) by omega),if_pos (show (h:Int) < (xs.length:Int) by omega),less,Option.bind_some,decide_eq_false cl,Bool.false_eq_true,if_false]
    exact m3
  ·obtain rfl:i=j:=by omega
   refine ⟨i,Nat.le_refl _,Nat.le_refl _,ev_shift ?_,fun _ ha hb=>⟨ha,hb⟩⟩
   unfold found
   simp only [slices_BinarySearch_int_int.l0,if_neg (show ¬ (i:Int) < (i:Int) by omega)]
   by_cases cn:(i:Int) < (xs.length:Int)
   ·simp only [if_pos cn,if_pos (show (0:Int)≤(i:Int) by omega)]
    by_cases e:rd xs (i:Int)=x
    ·simp only [if_pos e]
     rw [decide_eq_true ⟨by omega,e⟩]
     exact Ev.now _
    ·have z:(rd xs (i:Int) != rd xs (i:Int))=false:=by simp
     simp only [if_neg e,slices_isNaN_int.f,z,Option.bind_some,Bool.false_eq_true,if_false]
     rw [decide_eq_false (fun h=>e h.2)]
     exact Ev.now _
   ·simp only [if_neg cn]
    rw [decide_eq_false (fun h=>cn (by omega))]
    exact Ev.now _
theorem bins_any (xs:List Int) (x:Int) (hl:xs.length≤100000000) : ∃ m:Nat,m≤xs.length∧Ev (fun f=>slices_BinarySearch_int_int.f f xs x) ((m:Int),found xs x m)∧((∀ a b:Nat,a≤b→b < xs.length→rd xs (a:Int)≤rd xs (b:Int))→place xs x xs.length 0=m):=by
 obtain ⟨m,_,m2,m3,m4⟩:=bins_loop xs x hl xs.length 0 xs.length (Nat.zero_le _) (Nat.le_refl _) (by omega)
 exact ⟨m,m2,m3,fun hs=>by obtain ⟨a,b⟩:=m4 hs (fun a h=>absurd h (Nat.not_lt_zero _)) (fun h=>absurd h (Nat.lt_irrefl _));exact place_eq xs x m m2 a b⟩
theorem found_has (xs:List Int) (x:Int) (hs:∀ a b:Nat,a≤b→b < xs.length→rd xs (a:Int)≤rd xs (b:Int)):found xs x (place xs x xs.length 0)=has xs x:=by
 unfold found
 rw [Bool.eq_iff_iff,decide_eq_true_iff,has_iff]
 have a:=place_le xs x xs.length 0
 constructor
 ·rintro ⟨h1,h2⟩;exact ⟨_,by omega,by omega,h2⟩
 ·rintro ⟨j,j0,j1,j2⟩
  obtain ⟨j,rfl⟩:=Int.eq_ofNat_of_zero_le j0
  have h1:place xs x xs.length 0≤j:=by
   rcases Nat.lt_or_ge j (place xs x xs.length 0) with c|c
   ·have:=place_low xs x xs.length 0 j (Nat.zero_le _) c;omega
   ·exact c
  have h2:=hs _ _ h1 (by omega)
  have h3:=place_high xs x xs.length 0 (by omega)
  exact ⟨by omega,by omega⟩
theorem strict_eq:∀ l1 l2:List Int,l1.Pairwise (· < ·)→l2.Pairwise (· < ·)→(∀ x,x∈l1↔x∈l2)→l1=l2
 | [],[],_,_,_=>rfl
 | [],b :: l2,_,_,h=>absurd ((h b).2 (List.mem_cons_self ..)) (by simp)
 | a :: l1,[],_,_,h=>absurd ((h a).1 (List.mem_cons_self ..)) (by simp)
 | a :: l1,b :: l2,h1,h2,h=>by
  obtain ⟨p1,q1⟩:=List.pairwise_cons.1 h1
  obtain ⟨p2,q2⟩:=List.pairwise_cons.1 h2
  have e:a=b:=by
   rcases List.mem_cons.1 ((h a).1 (List.mem_cons_self ..)) with c|c
   ·exact c
   ·rcases List.mem_cons.1 ((h b).2 (List.mem_cons_self ..)) with d|d
    ·exact d.symm
    ·have:=p1 b d;have:=p2 a c;omega
  subst e
  rw [strict_eq l1 l2 q1 q2 (fun x=>?_)]
  constructor
  ·intro hx
   rcases List.mem_cons.1 ((h x).1 (List.mem_cons_of_mem _ hx)) with c|c
   ·have:=p1 x hx;omega
   ·exact c
  ·intro hx
   rcases List.mem_cons.1 ((h x).2 (List.mem_cons_of_mem _ hx)) with c|c
   ·have:=p2 x hx;omega
   ·exact c
theorem comp_fact (d:Array Int) (hs:∀ i j,i≤j→j < d.size→d[i]!≤d[j]!):∀ m,m≤d.size→(Go.Lib.compactUpTo d m).Pairwise (· < ·)∧(∀ x,x∈Go.Lib.compactUpTo d m↔∃ j,j < m∧d[j]! = x)
 | 0,_=>⟨by simp [Go.Lib.compactUpTo],fun x=>by simp [Go.Lib.compactUpTo]⟩
 | m+1,hm=>by
  obtain ⟨h1,h2⟩:=comp_fact d hs m (by omega)
  rw [Go.Lib.compactUpTo_succ]
  by_cases c:Go.Lib.keeps d m=true
  ·rw [if_pos c]
   refine ⟨List.pairwise_append.2 ⟨h1,by simp,fun x hx y hy=>?_⟩,fun x=>?_⟩
   ·rw [List.mem_singleton.1 hy]
    obtain ⟨j,hj,rfl⟩:=(h2 x).1 hx
    have a1:=hs j (m - 1) (by omega) (by omega)
    have a2:=hs (m - 1) m (by omega) (by omega)
    have a3:d[m]!≠d[m - 1]!:=by
     unfold Go.Lib.keeps at c
     rcases of_decide_eq_true c with q|q
     ·omega
     ·exact q
    omega
   ·rw [List.mem_append,h2,List.mem_singleton]
    constructor
    ·rintro (⟨j,hj,e⟩|e)
     ·exact ⟨j,by omega,e⟩
     ·exact ⟨m,by omega,e.symm⟩
    ·rintro ⟨j,hj,e⟩
     by_cases q:j=m
     ·subst q;exact .inr e.symm
     ·exact .inl ⟨j,by omega,e⟩
  ·rw [if_neg c,List.append_nil]
   refine ⟨h1,fun x=>?_⟩
   rw [h2]
   constructor
   ·rintro ⟨j,hj,e⟩;exact ⟨j,by omega,e⟩
   ·rintro ⟨j,hj,e⟩
    by_cases q:j=m
    ·subst q
     have hj0:j≠0:=fun h=>c (by unfold Go.Lib.keeps;exact decide_eq_true (.inl h))
     have he:d[j]! = d[j - 1]!:=by
      by_cases r:d[j]! = d[j - 1]!
      ·exact r
      ·exact absurd (Go.Lib.keeps_pos r) c
     exact ⟨j - 1,by omega,by rw [← he];exact e⟩
    ·exact ⟨j,by omega,e⟩
theorem inc_fact (l:List Int):(Go.Lib.compact (l.mergeSort fun x y=>decide (x≤y))).Pairwise (· < ·)∧∀ x,x∈Go.Lib.compact (l.mergeSort fun x y=>decide (x≤y))↔x∈l:=by
 have hp:(l.mergeSort fun x y=>decide (x≤y)).Pairwise (fun a b=>decide (a≤b)=true):=List.pairwise_mergeSort (le:=fun x y:Int=>decide (x≤y)) (fun a b c h1 h2=>decide_eq_true (Int.le_trans (of_decide_eq_true h1) (of_decide_eq_true h2))) (fun a b=>by rcases Int.le_total a b with h|h <;> simp [h]) l
 have hm:∀ x,x∈(l.mergeSort fun x y=>decide (x≤y))↔x∈l:=fun x=>List.mem_mergeSort
 generalize (l.mergeSort fun x y=>decide (x≤y))=z at hp hm ⊢
 have hs:∀ i j,i≤j→j < z.toArray.size→z.toArray[i]!≤z.toArray[j]!:=fun i j hij hj=>by
  have hj' : j < z.length:=by simpa using hj
  rw [getElem!_pos _ i (by simp;omega),getElem!_pos _ j hj]
  simp only [List.getElem_toArray]
  by_cases e:i=j
  ·subst e;exact Int.le_refl _
  ·exact of_decide_eq_true (List.pairwise_iff_getElem.1 hp i j (by omega) hj' (by omega))
 obtain ⟨a,b⟩:=comp_fact z.toArray hs z.length (by simp)
 refine ⟨a,fun x=>?_⟩
 rw [show Go.Lib.compact z=Go.Lib.compactUpTo z.toArray z.length from rfl,b,← hm]
 constructor
 ·rintro ⟨j,hj,e⟩
  rw [getElem!_pos _ j (by simpa using hj)] at e
  exact List.mem_iff_getElem.2 ⟨j,hj,by simpa using e⟩
 ·intro h
  obtain ⟨j,hj,e⟩:=List.mem_iff_getElem.1 h
  exact ⟨j,hj,by rw [getElem!_pos _ j (by simpa using hj)];simpa using e⟩
theorem put_fact (xs:List Int) (n:Int) (h:xs.Pairwise (· < ·)):(put xs n).Pairwise (· < ·)∧∀ x,x∈put xs n↔x∈xs∨x=n:=by
 unfold put putAt
 obtain ⟨k,hk⟩ : ∃ k,place xs n xs.length 0=k:=⟨_,rfl⟩
 have k0:=place_le xs n xs.length 0
 have k1:∀ m:Nat,m < k→rd xs (m:Int) < n:=fun m hm=>place_low xs n xs.length 0 m (Nat.zero_le _) (by omega)
 have k2:k < xs.length→¬ rd xs (k:Int) < n:=fun hl=>by have:=place_high xs n xs.length 0 (by omega);rwa [hk] at this
 rw [hk] at k0 ⊢
 have ht:∀ a∈xs.take k,a < n:=fun a ha=>by
  obtain ⟨j,hj,rfl⟩:=List.mem_iff_getElem.1 ha
  rw [List.length_take] at hj
  rw [List.getElem_take,← rd_ne xs j (by omega)]
  exact k1 j (by omega)
 split
 ·rename_i c
  refine ⟨h,fun x=>⟨.inl,fun q=>q.elim id (fun e=>?_)⟩⟩
  rw [e,← c.2,rd_ne xs k c.1]
  exact List.getElem_mem _
 ·rename_i c
  have hd:∀ b∈xs.drop k,n < b:=fun b hb=>by
   obtain ⟨j,hj,rfl⟩:=List.mem_iff_getElem.1 hb
   rw [List.length_drop] at hj
   rw [List.getElem_drop]
   have a1:=k2 (by omega)
   rw [rd_ne xs k (by omega)] at a1
   have a2 : ¬ xs[k]'(by omega)=n:=fun e=>c ⟨by omega,by rw [rd_ne xs k (by omega)];exact e⟩
   by_cases e:j=0
   ·subst e;simp only [Nat.add_zero];omega
   ·have:=List.pairwise_iff_getElem.1 h k (k+j) (by omega) (by omega) (by omega)
    omega
  have hsp:=List.take_append_drop k xs
  refine ⟨List.pairwise_append.2 ⟨h.sublist (List.take_sublist ..),List.pairwise_cons.2 ⟨hd,h.sublist (List.drop_sublist ..)⟩,fun a ha b hb=>?_⟩,fun x=>?_⟩
  ·rcases List.mem_cons.1 hb with e|e
   ·rw [e];exact ht a ha
   ·have:=ht a ha;have:=hd b e;omega
  ·have hm:x∈xs↔x∈xs.take k∨x∈xs.drop k:=by rw [← List.mem_append,hsp]
   rw [List.mem_append,List.mem_cons,hm]
   constructor
   ·rintro (q|q|q)
    ·exact .inl (.inl q)
    ·exact .inr q
    ·exact .inl (.inr q)
   ·rintro ((q|q)|q)
    ·exact .inl q
    ·exact .inr (.inr q)
    ·exact .inr (.inl q)
open Go.Proofs.YtlefjgpkabijdaaB in
theorem down_cons (n:Nat):down (n+1) (n+1)=n :: down n n:=by
 unfold down
 rw [List.range_succ_eq_map,List.map_cons,List.map_map]
 have e:(fun j=>n+1 - 1 - j) ∘ Nat.succ=fun j=>n - 1 - j:=by
  funext j
  show n+1 - 1 - (j+1)=n - 1 - j
  omega
 rw [e]
 simp
def bitAt (U:List Bool) (v:Nat):Bool:=U.getD v false
theorem bit_set (U:List Bool) (i v:Nat) (h:i < U.length):bitAt (U.set i true) v=true↔v=i∨bitAt U v=true:=by
 unfold bitAt
 simp only [List.getD_eq_getElem?_getD,List.getElem?_set]
 by_cases e:i=v
 ·subst e;simp [h]
 ·rw [if_neg e];simp;intro h2;exact absurd h2.symm e
def backTo (m:Nat) (ss:List St):Nat→List Bool→List Bool
 | 0,U=>U
 | d+1,U=>backTo m ss d (impl_Plan_used.step m ss U d)
open Go.Proofs.YtlefjgpkabijdaaB in
theorem down_back (m:Nat) (ss:List St):∀ (n:Nat) (U:List Bool),(down n n).foldl (impl_Plan_used.step m ss) U=backTo m ss n U
 | 0,_=>rfl
 | n+1,U=>by rw [down_cons,List.foldl_cons,down_back m ss n];rfl
def pick (U:List Bool) (m:Nat):Nat→Nat→List Int
 | 0,_=>[]
 | d+1,a=>if bitAt U (m+a)=true then (a:Int) :: pick U m d (a+1) else pick U m d (a+1)
theorem pick_length (U:List Bool) (m:Nat):∀ (d a:Nat),(pick U m d a).length≤d
 | 0,_=>Nat.le_refl _
 | d+1,a=>by
  have:=pick_length U m d (a+1)
  rw [pick]
  split
  ·rw [List.length_cons];omega
  ·omega
theorem step_length (m:Nat) (ss:List St) (U:List Bool) (x:Nat):(impl_Plan_used.step m ss U x).length=U.length:=impl_Plan_used.step_length m ss U x
theorem marks_bits (os:List Int):∀ (U:List Bool) (v:Nat),(∀ x∈os,0≤x∧x < (U.length:Int))→(bitAt (impl_Plan_used.marks os U) v=true↔(v:Int)∈os∨bitAt U v=true):=by
 induction os with
 | nil=>intro U v _;show bitAt U v=true↔_;simp
 | cons x os ih=>
  intro U v h
  have hx:=h x (List.mem_cons_self ..)
  have:=ih (U.set x.toNat true) v (fun y hy=>by rw [List.length_set];exact h y (List.mem_cons_of_mem _ hy))
  show bitAt (impl_Plan_used.marks os (U.set x.toNat true)) v=true↔_
  rw [this,bit_set _ _ _ (by omega),List.mem_cons]
  constructor
  ·rintro (h|h|h)
   ·exact .inl (.inr h)
   ·exact .inl (.inl (by omega))
   ·exact .inr h
  ·rintro ((h|h)|h)
   ·exact .inr (.inl (by omega))
   ·exact .inl h
   ·exact .inr (.inr h)
def marksOf (m:Nat) (ss:List St) (os:List Int):List Bool:=backTo m ss ss.length (impl_Plan_used.marks os (List.replicate (m+ss.length) false))
def usedOf (m:Nat) (ss:List St) (os:List Int):List Int:=pick (marksOf m ss os) m ss.length 0
theorem usedOf_length (m:Nat) (ss:List St) (os:List Int):(usedOf m ss os).length≤ss.length:=pick_length _ _ _ _
theorem backTo_length (m:Nat) (ss:List St):∀ (d:Nat) (U:List Bool),(backTo m ss d U).length=U.length
 | 0,_=>rfl
 | d+1,U=>by rw [backTo,backTo_length m ss d,step_length]
theorem marksOf_length (m:Nat) (ss:List St) (os:List Int):(marksOf m ss os).length=m+ss.length:=by unfold marksOf;rw [backTo_length,impl_Plan_used.marks_length,List.length_replicate]
theorem outs_mem {m:Nat} {ss:List St} {os:List Int} (h:∀ j:Nat,j < os.length→0≤rd os j∧rd os j≤(m:Int)+ss.length - 1):∀ x∈os,0≤x∧x < (m:Int)+ss.length:=fun x hx=>by
 obtain ⟨i,hi,rfl⟩:=List.mem_iff_getElem.1 hx
 have:=h i hi
 rw [rd_nat,show os.getD i 0=os[i] by simp [List.getD,hi]] at this
 omega
theorem used_eq (m:Nat) (ss:List St) (os:List Int) (h1:1≤m) (h2:m≤6) (h3:ss.length≤40) (h4:os.length≤6) (ho:InOrder m ss) (hos:∀ j:Nat,j < os.length→0≤rd os j∧rd os j≤(m:Int)+ss.length - 1):impl_Plan_used.f m ss os=some (marksOf m ss os):=by
 have hok:impl_Plan_used.ok m ss os=true:=by
  unfold impl_Plan_used.ok
  simp only [Bool.and_eq_true,decide_eq_true_eq,List.all_eq_true]
  refine ⟨⟨⟨⟨⟨by omega,by omega⟩,by omega⟩,by omega⟩,outs_mem hos⟩,fun s hs=>?_⟩
  obtain ⟨i,hi,rfl⟩:=List.mem_iff_getElem.1 hs
  obtain ⟨a,b,c⟩:=ho i hi
  have e:rd_T56 ss (i:Int)=ss[i]:=by unfold rd_T56;rw [Int.toNat_natCast];simp [List.getD,hi]
  rw [e] at a b c
  exact ⟨⟨⟨a,by omega⟩,by omega⟩,by omega⟩
 unfold impl_Plan_used.f marksOf
 rw [if_pos hok,down_back,show ((m:Int)+(ss.length:Int)).toNat=m+ss.length by omega]
theorem pick_add (U:List Bool) (m:Nat):∀ (a b s:Nat),pick U m (a+b) s=pick U m a s++pick U m b (s+a)
 | 0,b,s=>by rw [Nat.zero_add];rfl
 | a+1,b,s=>by
  rw [show a+1+b=(a+b)+1 by omega,pick,pick,pick_add U m a b (s+1),show s+1+a=s+(a+1) by omega]
  split
  ·rfl
  ·rfl
theorem pick_succ (U:List Bool) (m i:Nat):pick U m (i+1) 0=pick U m i 0++(if bitAt U (m+i)=true then [(i:Int)] else []):=by
 rw [pick_add,Nat.zero_add,pick]
 rfl
def cnt (U:List Bool) (m i:Nat):Nat:=(pick U m i 0).length
theorem cnt_le (U:List Bool) (m i:Nat):cnt U m i≤i:=pick_length U m i 0
def num (U:List Bool) (m:Nat) (v:Int):Int:=if v < m then v else (m:Int)+cnt U m (v - m).toNat
def stepAt (U:List Bool) (m:Nat) (ss:List St) (i:Int):St:=⟨mn (num U m (rdS ss i).f0) (num U m (rdS ss i).f1),mx (num U m (rdS ss i).f0) (num U m (rdS ss i).f1)⟩
def tSteps (m:Nat) (ss:List St) (os:List Int):List St:=(usedOf m ss os).map (stepAt (marksOf m ss os) m ss)
def tOuts (m:Nat) (ss:List St) (os:List Int):List Int:=os.map (num (marksOf m ss os) m)
def firstN (m:Nat):List Int:=(List.range m).map (fun j:Nat=>(j:Int))
theorem firstN_succ (m:Nat):firstN (m+1)=firstN m++[(m:Int)]:=by unfold firstN;simp [List.range_succ]
theorem firstN_length (m:Nat):(firstN m).length=m:=by unfold firstN;simp
theorem firsts_ev (m:Nat) (hm:m≤1000000):Ev (fun k=>impl_firsts.f k m) (firstN m):=by
 have loop:∀ (d i:Nat),i+d=m→Ev (fun k=>impl_firsts.l0 k (firstN i) m i) (firstN m):=by
  intro d
  induction d with
  | zero=>
   intro i hd
   obtain rfl:i=m:=by omega
   refine ev_shift ?_
   simp only [impl_firsts.l0,if_neg (show ¬ (i:Int) < (i:Int) by omega)]
   exact Ev.now _
  | succ d ih=>
   intro i hd
   refine ev_shift ?_
   simp only [impl_firsts.l0,if_pos (show (i:Int) < (m:Int) by omega),firstN_length,if_pos (show i < 17592186044416 by omega),w64 (show -9223372036854775808≤(i:Int)+1 by omega) (by omega)]
   rw [← firstN_succ]
   exact ih (i+1) (by omega)
 exact loop m 0 (by omega)
theorem renamed_ev (xs places:List Int) (hl:xs.length≤1000000) (h:∀ x∈xs,0≤x∧x < places.length):Ev (fun k=>impl_renamed.f k xs places) (xs.map (rd places)):=by
 have loop:∀ (d i:Nat),i+d=xs.length→Ev (fun k=>impl_renamed.l0 k places ((xs.take i).map (rd places)) xs xs.length i) (xs.map (rd places)):=by
  intro d
  induction d with
  | zero=>
   intro i hd
   refine ev_shift ?_
   simp only [impl_renamed.l0,if_neg (show ¬ (i:Int) < (xs.length:Int) by omega)]
   rw [List.take_of_length_le (by omega)]
   exact Ev.now _
  | succ d ih=>
   intro i hd
   have e:rd xs (i:Int)=xs[i]'(by omega):=by rw [rd_nat];simp [List.getD,show i < xs.length by omega]
   have hx:=h _ (List.getElem_mem (show i < xs.length by omega))
   rw [← e] at hx
   refine ev_shift ?_
   simp only [impl_renamed.l0,if_pos (show (i:Int) < (xs.length:Int) by omega),if_pos (show (0:Int)≤(i:Int) by omega),if_pos hx.1,if_pos hx.2,if_pos (show ((xs.take i).map (rd places)).length < 17592186044416 by simp;omega),w64 (show -9223372036854775808≤(i:Int)+1 by omega) (by omega)]
   have:=ih (i+1) (by omega)
   rw [List.take_succ_eq_append_getElem (by omega),List.map_append,← e] at this
   exact this
 exact loop xs.length 0 (by omega)
def placesTo (U:List Bool) (m i:Nat):List Int:=firstN m++(List.range i).map (fun j:Nat=>(m:Int)+cnt U m j)
theorem placesTo_length (U:List Bool) (m i:Nat):(placesTo U m i).length=m+i:=by unfold placesTo firstN;simp
theorem placesTo_succ (U:List Bool) (m i:Nat):placesTo U m (i+1)=placesTo U m i++[(m:Int)+cnt U m i]:=by unfold placesTo;simp [List.range_succ]
theorem placesTo_rd (U:List Bool) (m i:Nat) (v:Int) (h0:0≤v) (h1:v < m+i):rd (placesTo U m i) v=num U m v:=by
 obtain ⟨n,rfl⟩:=Int.eq_ofNat_of_zero_le h0
 rw [rd_nat,List.getD_eq_getElem?_getD]
 unfold placesTo num
 by_cases c:n < m
 ·rw [List.getElem?_append_left (by rw [firstN_length];exact c),if_pos (by omega)]
  unfold firstN
  simp [c]
 ·rw [List.getElem?_append_right (by rw [firstN_length];omega),if_neg (by omega),firstN_length,show ((n:Int) - m).toNat=n - m by omega]
  simp [show n - m < i by omega]
theorem trimmed_ev (m:Nat) (ss:List St) (os:List Int) (h1:1≤m) (h2:m≤6) (h3:ss.length≤40) (h4:os.length≤6) (ho:InOrder m ss) (hos:∀ j:Nat,j < os.length→0≤rd os j∧rd os j≤(m:Int)+ss.length - 1):Ev (fun k=>impl_Plan_trimmed.f k m ss os) ((m:Int),tSteps m ss os,tOuts m ss os):=by
 unfold impl_Plan_trimmed.f
 simp only [used_eq m ss os h1 h2 h3 h4 ho hos,Option.bind_some]
 refine ev_bind (firsts_ev m (by omega)) ?_
 have hUl:=marksOf_length m ss os
 have hm:=outs_mem hos
 obtain ⟨U,hU⟩ : ∃ U,U=marksOf m ss os:=⟨_,rfl⟩
 unfold tSteps tOuts usedOf
 rw [← hU] at hUl ⊢
 have loop:∀ (d i:Nat),i+d=ss.length→Ev (fun k=>impl_Plan_trimmed.l0 k U (placesTo U m i) ss ss.length i m ss os m ((pick U m i 0).map (stepAt U m ss))) ((m:Int),(pick U m ss.length 0).map (stepAt U m ss),os.map (num U m)):=by
  intro d
  induction d with
  | zero=>
   intro i hd
   obtain rfl:i=ss.length:=by omega
   refine ev_shift ?_
   simp only [impl_Plan_trimmed.l0,if_neg (show ¬ (ss.length:Int) < (ss.length:Int) by omega)]
   refine ev_bind (renamed_ev os _ (by omega) (fun x hx=>by rw [placesTo_length];have:=hm x hx;omega)) ?_
   have e:os.map (rd (placesTo U m ss.length))=os.map (num U m):=List.map_congr_left fun x hx=>by
    have:=hm x hx
    exact placesTo_rd U m ss.length x this.1 (by omega)
   rw [e]
   exact Ev.now _
  | succ d ih=>
   intro i hd
   obtain ⟨k1,k2,k3⟩:=ho i (by omega)
   have w1:wrap64 ((m:Int)+(i:Int))=(m:Int)+i:=w64 (by omega) (by omega)
   have w2:wrap64 ((i:Int)+1)=(i:Int)+1:=w64 (by omega) (by omega)
   have p1:(i:Int) < (ss.length:Int):=by omega
   have p2:(0:Int)≤(i:Int):=by omega
   have p3:(0:Int)≤(m:Int)+(i:Int):=by omega
   have p4:(m:Int)+(i:Int) < (U.length:Int):=by omega
   have p5:(0:Int)≤(rd_T56 ss i).f1:=by omega
   have p6:(rd_T56 ss i).f0 < ((m+(i+1):Nat):Int):=by omega
   have p7:(rd_T56 ss i).f1 < ((m+(i+1):Nat):Int):=by omega
   have p8:(rd_T56 ss i).f0 < (m:Int)+((i+1:Nat):Int):=by omega
   have p9:(rd_T56 ss i).f1 < (m:Int)+((i+1:Nat):Int):=by omega
   have hb:rdOf false U ((m:Int)+(i:Int))=bitAt U (m+i):=by unfold rdOf bitAt;rw [show ((m:Int)+(i:Int)).toNat=m+i by omega]
   have hn:=ih (i+1) (by omega)
   have q1:(placesTo U m i).length < 17592186044416:=by rw [placesTo_length];omega
   have hw:wrap64 ((m:Int)+(cnt U m i:Int))=(m:Int)+cnt U m i:=by
    have:=cnt_le U m i
    generalize cnt U m i=c at this ⊢
    exact w64 (by omega) (by omega)
   have q2:(List.map (stepAt U m ss) (pick U m i 0)).length < 8796093022208:=by
    rw [List.length_map]
    have:=cnt_le U m i
    have e:(pick U m i 0).length=cnt U m i:=rfl
    rw [e]
    generalize cnt U m i=c at this ⊢
    omega
   rw [pick_succ] at hn
   refine ev_shift ?_
   simp only [impl_Plan_trimmed.l0,if_pos p1,if_pos p2]
   simp only [impl_Plan_many.f]
   simp only [if_pos q1,if_pos q2]
   simp -implicitDefEqProofs only [Option.bind_some,List.length_map]
   have el:((pick U m i 0).length:Int)=(cnt U m i:Int):=rfl
   simp -implicitDefEqProofs only [el,hw]
   simp -implicitDefEqProofs only [w1,w2,if_pos p3,if_pos p4,hb]
   rw [← placesTo_succ]
   by_cases c:bitAt U (m+i)=true
   ·rw [if_pos c,List.map_append] at hn
    have ra:=placesTo_rd U m (i+1) (rdS ss i).f0 k1 p8
    have rb:=placesTo_rd U m (i+1) (rdS ss i).f1 p5 p9
    simp -implicitDefEqProofs only [if_pos c,if_pos k1,placesTo_length,if_pos p6,if_pos p5,if_pos p7,impl_step.f,Option.bind_some]
    have es:(⟨mn (rd (placesTo U m (i+1)) (rd_T56 ss (i:Int)).f0) (rd (placesTo U m (i+1)) (rd_T56 ss (i:Int)).f1),mx (rd (placesTo U m (i+1)) (rd_T56 ss (i:Int)).f0) (rd (placesTo U m (i+1)) (rd_T56 ss (i:Int)).f1)⟩ : St)=stepAt U m ss (i:Int):=by
     unfold stepAt
     rw [show rd_T56 ss (i:Int)=rdS ss i from rfl,ra,rb]
    rw [es]
    exact hn
   ·rw [if_neg c,List.append_nil] at hn
    simp -implicitDefEqProofs only [if_neg c]
    exact hn
 have:=loop ss.length 0 (by omega)
 have e0:placesTo U m 0=firstN m:=by unfold placesTo;simp
 rw [e0] at this
 exact this
theorem tSteps_length (m:Nat) (ss:List St) (os:List Int):(tSteps m ss os).length≤ss.length:=by unfold tSteps;rw [List.length_map];exact usedOf_length m ss os
theorem step_bit (m:Nat) (ss:List St) (ho:InOrder m ss) (U:List Bool) (d:Nat) (hd:d < ss.length) (hU:U.length=m+ss.length) (v:Nat) :
  bitAt (impl_Plan_used.step m ss U d) v=true↔bitAt U v=true∨(bitAt U (m+d)=true∧((v:Int)=(rdS ss d).f0∨(v:Int)=(rdS ss d).f1)):=by
 obtain ⟨k1,k2,k3⟩:=ho d hd
 have hb:rdOf false U ((m:Int)+(d:Int))=bitAt U (m+d):=by unfold rdOf bitAt;rw [show ((m:Int)+(d:Int)).toNat=m+d by omega]
 have k3' : (rdS ss d).f1 < (m:Int)+d:=k3
 have k2' : (rdS ss d).f0≤(rdS ss d).f1:=k2
 have k1' : 0≤(rdS ss d).f0:=k1
 have e0:((rdS ss d).f0.toNat:Int)=(rdS ss d).f0:=Int.toNat_of_nonneg k1
 have e1:((rdS ss d).f1.toNat:Int)=(rdS ss d).f1:=Int.toNat_of_nonneg (Int.le_trans k1 k2)
 unfold impl_Plan_used.step
 rw [hb]
 by_cases c:bitAt U (m+d)=true
 ·rw [if_pos c]
  have l1:(rdS ss d).f0.toNat < U.length:=by omega
  have l2:(rdS ss d).f1.toNat < (U.set (rdS ss d).f0.toNat true).length:=by rw [List.length_set];omega
  rw [show (rd_T56 ss (d:Int))=rdS ss d from rfl,bit_set _ _ _ l2,bit_set _ _ _ l1]
  constructor
  ·rintro (h|h|h)
   ·exact .inr ⟨c,.inr (by omega)⟩
   ·exact .inr ⟨c,.inl (by omega)⟩
   ·exact .inl h
  ·rintro (h|⟨_,h|h⟩)
   ·exact .inr (.inr h)
   ·exact .inr (.inl (by omega))
   ·exact .inl (by omega)
 ·rw [if_neg c]
  exact ⟨.inl,fun h=>h.elim id (fun h=>absurd h.1 c)⟩
theorem back_facts (m:Nat) (ss:List St) (ho:InOrder m ss):∀ (d:Nat) (U:List Bool),d≤ss.length→U.length=m+ss.length →
  (∀ v,bitAt U v=true→bitAt (backTo m ss d U) v=true)∧(∀ v,m+d≤v→bitAt (backTo m ss d U) v=true→bitAt U v=true) ∧
  (∀ i,i < d→bitAt (backTo m ss d U) (m+i)=true→∀ v:Nat,((v:Int)=(rdS ss i).f0∨(v:Int)=(rdS ss i).f1)→bitAt (backTo m ss d U) v=true) ∧
  (∀ v,bitAt (backTo m ss d U) v=true→bitAt U v=true∨∃ i,i < d∧bitAt (backTo m ss d U) (m+i)=true∧((v:Int)=(rdS ss i).f0∨(v:Int)=(rdS ss i).f1))
 | 0,U,_,_=>⟨fun _ h=>h,fun _ _ h=>h,fun _ h=>absurd h (Nat.not_lt_zero _),fun _ h=>.inl h⟩
 | d+1,U,hd,hU=>by
  have hs:=step_bit m ss ho U d (by omega) hU
  obtain ⟨a,b,c,e⟩:=back_facts m ss ho d (impl_Plan_used.step m ss U d) (by omega) (by rw [step_length];exact hU)
  obtain ⟨k1,k2,k3⟩:=ho d (by omega)
  have up:∀ v,bitAt U v=true→bitAt (backTo m ss (d+1) U) v=true:=fun v h=>a v ((hs v).2 (.inl h))
  have dn:∀ v,m+d≤v→bitAt (backTo m ss (d+1) U) v=true→bitAt U v=true:=fun v hv h=>by
   rcases (hs v).1 (b v hv h) with q|⟨_,q|q⟩
   ·exact q
   ·have:(v:Int)=(rdS ss d).f0:=q
    have k3' : (rdS ss d).f1 < m+(d:Int):=k3
    have k2' : (rdS ss d).f0≤(rdS ss d).f1:=k2
    omega
   ·have:(v:Int)=(rdS ss d).f1:=q
    have k3' : (rdS ss d).f1 < m+(d:Int):=k3
    omega
  refine ⟨up,fun v hv h=>dn v (by omega) h,fun i hi h v hv=>?_,fun v h=>?_⟩
  ·by_cases q:i=d
   ·subst q
    exact a v ((hs v).2 (.inr ⟨dn _ (Nat.le_refl _) h,hv⟩))
   ·exact c i (by omega) h v hv
  ·rcases e v h with q|⟨i,hi,q1,q2⟩
   ·rcases (hs v).1 q with q|⟨q1,q2⟩
    ·exact .inl q
    ·exact .inr ⟨d,by omega,up _ q1,q2⟩
   ·exact .inr ⟨i,by omega,q1,q2⟩
theorem marks_facts (m:Nat) (ss:List St) (os:List Int) (ho:InOrder m ss) (hos:∀ x∈os,0≤x∧x < (m:Int)+ss.length) :
  (∀ v:Nat,(v:Int)∈os→bitAt (marksOf m ss os) v=true) ∧
  (∀ i,i < ss.length→bitAt (marksOf m ss os) (m+i)=true→∀ v:Nat,((v:Int)=(rdS ss i).f0∨(v:Int)=(rdS ss i).f1)→bitAt (marksOf m ss os) v=true) ∧
  (∀ v:Nat,bitAt (marksOf m ss os) v=true→(v:Int)∈os∨∃ i,i < ss.length∧bitAt (marksOf m ss os) (m+i)=true∧((v:Int)=(rdS ss i).f0∨(v:Int)=(rdS ss i).f1)):=by
 have hl:(impl_Plan_used.marks os (List.replicate (m+ss.length) false)).length=m+ss.length:=by rw [impl_Plan_used.marks_length,List.length_replicate]
 obtain ⟨a,_,c,e⟩:=back_facts m ss ho ss.length _ (Nat.le_refl _) hl
 have hb:=fun v=>marks_bits os (List.replicate (m+ss.length) false) v (fun x hx=>by rw [List.length_replicate];have:=hos x hx;omega)
 refine ⟨fun v h=>a v ((hb v).2 (.inl h)),c,fun v h=>?_⟩
 rcases e v h with q|q
 ·rcases (hb v).1 q with q|q
  ·exact .inl q
  ·unfold bitAt at q
   rw [List.getD_eq_getElem?_getD,List.getElem?_replicate] at q
   split at q <;> simp at q
 ·exact .inr q
theorem grow_snoc (ss:List St):∀ (d:Nat) (i:Int) (rows:List (List Int)),grow ss (d+1) i rows=grow ss d i rows++[addRow (rd_L3 (grow ss d i rows) (rdS ss (i+d)).f0) (rd_L3 (grow ss d i rows) (rdS ss (i+d)).f1)]
 | 0,i,rows=>by rw [grow,grow,grow,show i+((0:Nat):Int)=i by omega]
 | d+1,i,rows=>by
  rw [grow,grow_snoc ss d (i+1),show i+1+(d:Int)=i+((d+1:Nat):Int) by omega]
  rfl
def eTo (n:Nat) (ss:List St) (i:Nat):List (List Int):=grow ss i 0 (base0 n n)
theorem eTo_succ (n:Nat) (ss:List St) (i:Nat):eTo n ss (i+1)=eTo n ss i++[addRow (rd_L3 (eTo n ss i) (rdS ss i).f0) (rd_L3 (eTo n ss i) (rdS ss i).f1)]:=by
 unfold eTo
 rw [grow_snoc,Int.zero_add]
theorem eTo_length (n:Nat) (ss:List St):∀ i,(eTo n ss i).length=n+i
 | 0=>base0_length n n
 | i+1=>by rw [eTo_succ,List.length_append,List.length_singleton,eTo_length n ss i];rfl
theorem eTo_ok (n:Nat) (ss:List St) (ho:InOrder n ss):∀ i,i≤ss.length→RowsOk n (n+i) (eTo n ss i)
 | 0,_=>base0_ok n n
 | i+1,h=>by
  have ih:=eTo_ok n ss ho i (by omega)
  obtain ⟨k1,k2,k3⟩:=ho i (by omega)
  have hl:=eTo_length n ss i
  have k3' : (rdS ss i).f1 < (n:Int)+i:=k3
  have k2' : (rdS ss i).f0≤(rdS ss i).f1:=k2
  rw [eTo_succ]
  exact ih.snoc (addRow_ok n _ _ (ih.2 _ (rd_mem _ _ k1 (by rw [hl];omega))) (ih.2 _ (rd_mem _ _ (Int.le_trans k1 k2) (by rw [hl];omega))))
theorem sumFrom_comm (a b:List Int):∀ d k,sumFrom a b d k=sumFrom b a d k
 | 0,_=>rfl
 | d+1,k=>by rw [sumFrom,sumFrom,sumFrom_comm a b d,Int.add_comm]
theorem addRow_comm (a b:List Int) (h:a.length=b.length):addRow a b=addRow b a:=by unfold addRow;rw [h,sumFrom_comm]
theorem rdL_left (A:List (List Int)) (x:List Int) (v:Int) (h0:0≤v) (h:v < A.length):rd_L3 (A++[x]) v=rd_L3 A v:=by
 unfold rd_L3
 rw [List.getD_eq_getElem?_getD,List.getD_eq_getElem?_getD,List.getElem?_append_left (by omega)]
theorem rdL_last (A:List (List Int)) (x:List Int):rd_L3 (A++[x]) (A.length:Int)=x:=by
 unfold rd_L3
 rw [Int.toNat_natCast]
 simp [List.getD]
theorem mnmx (a b:Int):(mn a b=a∧mx a b=b∧a≤b)∨(mn a b=b∧mx a b=a∧b≤a):=by
 unfold mn mx
 by_cases h:a≤b
 ·by_cases h2:b≤a
  ·have:a=b:=by omega
   subst this
   left;simp
  ·left;refine ⟨?_,?_,h⟩ <;> simp <;> omega
 ·right;refine ⟨?_,?_,by omega⟩ <;> simp <;> omega
theorem cnt_succ (U:List Bool) (m i:Nat):cnt U m (i+1)=cnt U m i+(if bitAt U (m+i)=true then 1 else 0):=by
 unfold cnt
 rw [pick_succ,List.length_append]
 split <;> rfl
theorem cnt_mono (U:List Bool) (m:Nat):∀ (d i:Nat),cnt U m i≤cnt U m (i+d)
 | 0,i=>Nat.le_refl _
 | d+1,i=>by
  have:=cnt_mono U m d i
  rw [show i+(d+1)=(i+d)+1 by omega,cnt_succ]
  omega
theorem num_lt (U:List Bool) (m i:Nat) (v:Int) (h0:0≤v) (h1:v < m+i) (hb:v < m∨bitAt U v.toNat=true):0≤num U m v∧num U m v < (m:Int)+cnt U m i:=by
 unfold num
 by_cases c:v < m
 ·rw [if_pos c];omega
 ·rw [if_neg c]
  have hb:=hb.resolve_left c
  obtain ⟨j,hj⟩ : ∃ j:Nat,(v - m).toNat=j:=⟨_,rfl⟩
  have e:v.toNat=m+j:=by omega
  have h2:=cnt_mono U m (i - (j+1)) (j+1)
  rw [show j+1+(i - (j+1))=i by omega,cnt_succ,← e,if_pos hb] at h2
  rw [hj]
  omega
theorem pick_at (U:List Bool) (m L i:Nat) (hi:i < L) (hb:bitAt U (m+i)=true):(pick U m L 0)[cnt U m i]? = some (i:Int):=by
 have e:pick U m L 0=pick U m i 0++((i:Int) :: pick U m (L - (i+1)) (i+1)):=by
  rw [show L=i+(1+(L - (i+1))) by omega,pick_add,Nat.zero_add,pick_add,pick,if_pos hb,pick]
  rw [show i+(1+(L - (i+1))) - (i+1)=L - (i+1) by omega]
  rfl
 rw [e,show cnt U m i=(pick U m i 0).length from rfl,List.getElem?_append_right (Nat.le_refl _),Nat.sub_self]
 rfl
theorem tStep_at (m:Nat) (ss:List St) (os:List Int) (i:Nat) (hi:i < ss.length) (hb:bitAt (marksOf m ss os) (m+i)=true):rdS (tSteps m ss os) (cnt (marksOf m ss os) m i:Int)=stepAt (marksOf m ss os) m ss i:=by
 have h:=pick_at (marksOf m ss os) m ss.length i hi hb
 unfold rdS rd_T56 tSteps usedOf
 rw [Int.toNat_natCast,List.getD_eq_getElem?_getD,List.getElem?_map,h]
 rfl
theorem trim_exps (m:Nat) (ss:List St) (os:List Int) (ho:InOrder m ss) (hos:∀ x∈os,0≤x∧x < (m:Int)+ss.length):∀ (i:Nat),i≤ss.length→∀ v:Int,0≤v→v < (m:Int)+i→(v < m∨bitAt (marksOf m ss os) v.toNat=true) →
  rd_L3 (eTo m (tSteps m ss os) (cnt (marksOf m ss os) m i)) (num (marksOf m ss os) m v)=rd_L3 (eTo m ss i) v:=by
 obtain ⟨f1,f2,f3⟩:=marks_facts m ss os ho hos
 intro i
 induction i with
 | zero=>
  intro _ v h0 h1 hb
  have c:v < m:=by omega
  unfold num
  rw [if_pos c]
  rfl
 | succ i ih=>
  intro hi v h0 h1 hb
  have ih:=ih (by omega)
  have hl:=eTo_length m ss i
  have hk:=cnt_succ (marksOf m ss os) m i
  by_cases hu:bitAt (marksOf m ss os) (m+i)=true
  ·rw [if_pos hu] at hk
   rw [hk,eTo_succ,eTo_succ]
   have hlT:=eTo_length m (tSteps m ss os) (cnt (marksOf m ss os) m i)
   by_cases e:v=(m:Int)+i
   ·have en:num (marksOf m ss os) m v=((eTo m (tSteps m ss os) (cnt (marksOf m ss os) m i)).length:Int):=by
     unfold num
     rw [if_neg (by omega),hlT,show (v - m).toNat=i by omega]
     omega
    have ev:v=((eTo m ss i).length:Int):=by rw [hl];omega
    rw [en,rdL_last,ev,rdL_last,tStep_at m ss os i (by omega) hu]
    obtain ⟨k1,k2,k3⟩:=ho i (by omega)
    have b0:bitAt (marksOf m ss os) (rdS ss i).f0.toNat=true:=f2 i (by omega) hu _ (.inl (Int.toNat_of_nonneg k1))
    have b1:bitAt (marksOf m ss os) (rdS ss i).f1.toNat=true:=f2 i (by omega) hu _ (.inr (Int.toNat_of_nonneg (Int.le_trans k1 k2)))
    have k3' : (rdS ss i).f1 < (m:Int)+i:=k3
    have k2' : (rdS ss i).f0≤(rdS ss i).f1:=k2
    have i0:=ih (rdS ss i).f0 k1 (by omega) (.inr b0)
    have i1:=ih (rdS ss i).f1 (Int.le_trans k1 k2) (by omega) (.inr b1)
    have r0:=(eTo_ok m ss ho i (by omega)).2 _ (rd_mem _ (rdS ss i).f0 k1 (by rw [hl];omega))
    have r1:=(eTo_ok m ss ho i (by omega)).2 _ (rd_mem _ (rdS ss i).f1 (Int.le_trans k1 k2) (by rw [hl];omega))
    unfold stepAt
    rcases mnmx (num (marksOf m ss os) m (rdS ss i).f0) (num (marksOf m ss os) m (rdS ss i).f1) with ⟨q0,q1,_⟩|⟨q0,q1,_⟩
    ·show addRow (rd_L3 _ (mn _ _)) (rd_L3 _ (mx _ _))=_
     rw [q0,q1,i0,i1]
    ·show addRow (rd_L3 _ (mn _ _)) (rd_L3 _ (mx _ _))=_
     rw [q0,q1,i0,i1]
     exact addRow_comm _ _ (by rw [r0.1,r1.1])
   ·have hv:v < (m:Int)+i:=by omega
    have hn:=num_lt (marksOf m ss os) m i v h0 hv hb
    rw [rdL_left _ _ _ hn.1 (by rw [hlT];omega),rdL_left _ _ _ h0 (by rw [hl];omega)]
    exact ih v h0 hv hb
  ·rw [if_neg hu,Nat.add_zero] at hk
   have e : ¬ v=(m:Int)+i:=fun e=>by
    rcases hb with q|q
    ·omega
    ·exact hu (by rw [show m+i=v.toNat by omega];exact q)
   have hv:v < (m:Int)+i:=by omega
   rw [hk,eTo_succ m ss i,rdL_left _ _ _ h0 (by rw [hl];omega)]
   exact ih v h0 hv hb
theorem pick_inv (U:List Bool) (m:Nat):∀ (L j:Nat),j < cnt U m L→∃ i,i < L∧bitAt U (m+i)=true∧cnt U m i=j
 | 0,j,h=>absurd h (Nat.not_lt_zero _)
 | L+1,j,h=>by
  rw [cnt_succ] at h
  by_cases c:j < cnt U m L
  ·obtain ⟨i,a,b,e⟩:=pick_inv U m L j c
   exact ⟨i,by omega,b,e⟩
  ·by_cases q:bitAt U (m+L)=true
   ·rw [if_pos q] at h
    exact ⟨L,by omega,q,by omega⟩
   ·rw [if_neg q] at h
    omega
theorem tSteps_len (m:Nat) (ss:List St) (os:List Int):(tSteps m ss os).length=cnt (marksOf m ss os) m ss.length:=by unfold tSteps usedOf cnt;rw [List.length_map]
theorem trim_order (m:Nat) (ss:List St) (os:List Int) (ho:InOrder m ss) (hos:∀ x∈os,0≤x∧x < (m:Int)+ss.length):InOrder m (tSteps m ss os):=by
 obtain ⟨f1,f2,f3⟩:=marks_facts m ss os ho hos
 intro j hj
 rw [tSteps_len] at hj
 obtain ⟨i,hi,hb,rfl⟩:=pick_inv _ m ss.length j hj
 have e:=tStep_at m ss os i hi hb
 obtain ⟨k1,k2,k3⟩:=ho i hi
 have b0:bitAt (marksOf m ss os) (rdS ss i).f0.toNat=true:=f2 i hi hb _ (.inl (Int.toNat_of_nonneg k1))
 have b1:bitAt (marksOf m ss os) (rdS ss i).f1.toNat=true:=f2 i hi hb _ (.inr (Int.toNat_of_nonneg (Int.le_trans k1 k2)))
 have k3' : (rdS ss i).f1 < (m:Int)+i:=k3
 have k2' : (rdS ss i).f0≤(rdS ss i).f1:=k2
 have n0:=num_lt (marksOf m ss os) m i (rdS ss i).f0 k1 (by omega) (.inr b0)
 have n1:=num_lt (marksOf m ss os) m i (rdS ss i).f1 (Int.le_trans k1 k2) (by omega) (.inr b1)
 show 0≤(rdS (tSteps m ss os) _).f0∧(rdS (tSteps m ss os) _).f0≤(rdS (tSteps m ss os) _).f1∧(rdS (tSteps m ss os) _).f1 < _
 rw [e]
 unfold stepAt
 rcases mnmx (num (marksOf m ss os) m (rdS ss i).f0) (num (marksOf m ss os) m (rdS ss i).f1) with ⟨q0,q1,q2⟩|⟨q0,q1,q2⟩
 ·show 0≤mn _ _∧mn _ _≤mx _ _∧mx _ _ < _
  rw [q0,q1]
  exact ⟨n0.1,q2,n1.2⟩
 ·show 0≤mn _ _∧mn _ _≤mx _ _∧mx _ _ < _
  rw [q0,q1]
  exact ⟨n1.1,q2,n0.2⟩
theorem trim_outs (m:Nat) (ss:List St) (os:List Int) (ho:InOrder m ss) (hos:∀ x∈os,0≤x∧x < (m:Int)+ss.length):∀ x∈tOuts m ss os,0≤x∧x < (m:Int)+(tSteps m ss os).length:=by
 obtain ⟨f1,f2,f3⟩:=marks_facts m ss os ho hos
 intro x hx
 obtain ⟨v,hv,rfl⟩:=List.mem_map.1 hx
 have h:=hos v hv
 rw [tSteps_len]
 exact num_lt _ m ss.length v h.1 h.2 (.inr (f1 v.toNat (by rw [Int.toNat_of_nonneg h.1];exact hv)))
theorem trim_exp (m:Nat) (ss:List St) (os:List Int) (ho:InOrder m ss) (hos:∀ x∈os,0≤x∧x < (m:Int)+ss.length) (v:Int) (h0:0≤v) (h1:v < (m:Int)+ss.length) (hb:v < m∨bitAt (marksOf m ss os) v.toNat=true) :
  rd_L3 (exps m (tSteps m ss os)) (num (marksOf m ss os) m v)=rd_L3 (exps m ss) v:=by
 have:=trim_exps m ss os ho hos ss.length (Nat.le_refl _) v h0 h1 hb
 rw [← tSteps_len] at this
 exact this
theorem trim_sub (m:Nat) (ss:List St) (os:List Int) (ho:InOrder m ss) (hos:∀ x∈os,0≤x∧x < (m:Int)+ss.length):∀ r∈exps m (tSteps m ss os),r∈exps m ss:=by
 intro r hr
 obtain ⟨j,hj,rfl⟩:=List.mem_iff_getElem.1 hr
 have hlT:(exps m (tSteps m ss os)).length=m+(tSteps m ss os).length:=eTo_length _ _ _
 have hl:(exps m ss).length=m+ss.length:=eTo_length _ _ _
 have er:rd_L3 (exps m (tSteps m ss os)) (j:Int)=(exps m (tSteps m ss os))[j]:=by unfold rd_L3;rw [Int.toNat_natCast];simp [List.getD,hj]
 rw [← er]
 by_cases c:j < m
 ·have h:=trim_exp m ss os ho hos j (by omega) (by omega) (.inl (by omega))
  have en:num (marksOf m ss os) m (j:Int)=j:=by unfold num;rw [if_pos (by omega)]
  rw [en] at h
  rw [h]
  exact rd_mem _ _ (by omega) (by rw [hl];omega)
 ·obtain ⟨i,hi,hb,e⟩:=pick_inv (marksOf m ss os) m ss.length (j - m) (by rw [← tSteps_len];omega)
  have h:=trim_exp m ss os ho hos ((m+i:Nat):Int) (by omega) (by omega) (.inr (by rw [Int.toNat_natCast];exact hb))
  have en:num (marksOf m ss os) m ((m+i:Nat):Int)=j:=by
   unfold num
   rw [if_neg (by omega),show (((m+i:Nat):Int) - m).toNat=i by omega,e]
   omega
  rw [en] at h
  rw [h]
  exact rd_mem _ _ (by omega) (by rw [hl];omega)
theorem trim_ok (m:Nat) (ss:List St) (os:List Int) (hm:1≤m) (hm2:m≤6) (hs:ss.length≤40) (hol:os.length≤6) (ho:InOrder m ss) (hos:∀ x∈os,0≤x∧x < (m:Int)+ss.length) (hb:∀ r∈exps m ss,∀ e∈r,0≤e∧e≤1000000):planOk m (tSteps m ss os) (tOuts m ss os)=true:=by
 have hT:=trim_order m ss os ho hos
 have hO:=trim_outs m ss os ho hos
 have all_ok:∀ (ys:List Int) (a b:Int),(∀ y∈ys,a≤y∧y≤b)→allFrom ys a b ys.length 0=true:=by
  intro ys a b hh
  have loop:∀ (d i:Nat),i+d=ys.length→allFrom ys a b d i=true:=by
   intro d
   induction d with
   | zero=>intro i _;rfl
   | succ d ih=>
    intro i hd
    rw [allFrom,if_pos (by rw [rd_nat,show ys.getD i 0=ys[i]'(by omega) by simp [List.getD,show i < ys.length by omega]];exact hh _ (List.getElem_mem _))]
    exact ih (i+1) (by omega)
  exact loop ys.length 0 (by omega)
 have hTl:(tSteps m ss os).length≤40:=Nat.le_trans (tSteps_length m ss os) hs
 have hOl:(tOuts m ss os).length≤6:=by unfold tOuts;rw [List.length_map];exact hol
 unfold planOk
 rw [Bool.and_eq_true]
 constructor
 ·unfold impl_IsPlan.formed
  have hst:impl_IsPlan.steps m (tSteps m ss os) (tSteps m ss os).length 0=true:=steps_true m _ _ 0 (fun j _ hj=>hT j (by omega))
  rw [if_pos (by omega),if_pos hTl,if_pos hOl,if_pos hst,outs_all,Bool.not_not]
  exact all_ok _ _ _ (fun y hy=>by have:=hO y hy;omega)
 ·rw [Int.toNat_natCast,goodFrom_eq,List.all_eq_true]
  intro r hr
  exact all_ok r 0 1000000 (hb r (trim_sub m ss os ho hos r hr))
theorem inner_has (xs:List Int) (k j:Int):∀ (d i:Nat) (a:Nat),i≤a→a < i+d→wrap64 (rd xs a+rd xs j)=rd xs k→inner xs k j d i≠[]
 | 0,i,a,h1,h2,_=>by omega
 | d+1,i,a,h1,h2,h=>by
  unfold inner
  by_cases c:wrap64 (rd xs (i:Int)+rd xs j)=rd xs k
  ·rw [if_pos c];simp
  ·rw [if_neg c,show ((i:Int)+1)=((i+1:Nat):Int) by omega]
   have:i≠a:=fun e=>c (by rw [e];exact h)
   exact inner_has xs k j d (i+1) a (by omega) (by omega) h
theorem outer_has (xs:List Int) (k:Int):∀ (d j0 j:Nat),j0≤j→j < j0+d→inner xs k j (j+1) 0≠[]→outer xs k d j0≠[]
 | 0,j0,j,h1,h2,_=>by omega
 | d+1,j0,j,h1,h2,h=>by
  unfold outer
  by_cases e:j0=j
  ·subst e
   rw [show ((j0:Int)+1).toNat=j0+1 by omega]
   intro q
   exact h (List.append_eq_nil_iff.1 q).1
  ·have:=outer_has xs k d (j0+1) j (by omega) (by omega) h
   rw [show ((j0:Int)+1)=((j0+1:Nat):Int) by omega]
   intro q
   exact this (List.append_eq_nil_iff.1 q).2
theorem chain_mk (xs:List Int) (h1:1≤xs.length) (h2:xs.length≤41) (h0:rd xs 0=1) (hs:∀ a b:Nat,a < b→b < xs.length→rd xs (a:Int) < rd xs (b:Int)) (hm:∀ a:Nat,a < xs.length→0≤rd xs (a:Int)∧rd xs (a:Int)≤1000000)
  (hx:∀ k:Nat,1≤k→k < xs.length→∃ i j:Nat,i≤j∧j < k∧rd xs (i:Int)+rd xs (j:Int)=rd xs (k:Int)):chain xs=true:=by
 have loop:∀ (d k:Nat),1≤k→k+d=xs.length→implFrom xs d k=true:=by
  intro d
  induction d with
  | zero=>intro k _ _;rfl
  | succ d ih=>
   intro k hk hd
   obtain ⟨i,j,hij,hjk,e⟩:=hx k hk (by omega)
   have a1:=hs (k - 1) k (by omega) (by omega)
   have a2:=hm k (by omega)
   have a3:=hm i (by omega)
   have a4:=hm j (by omega)
   rw [show ((k - 1:Nat):Int)=(k:Int) - 1 by omega] at a1
   have hw:wrap64 (rd xs (i:Int)+rd xs (j:Int))=rd xs (k:Int):=by rw [w64 (by omega) (by omega)];exact e
   have hn:sumsOf xs (k:Int)≠[]:=by
    unfold sumsOf
    rw [Int.toNat_natCast]
    exact outer_has xs k k 0 j (Nat.zero_le _) (by omega) (inner_has xs k j (j+1) 0 i (Nat.zero_le _) (by omega) hw)
   unfold implFrom
   rw [if_neg (by omega),if_neg (by omega),if_neg (fun h=>hn (List.eq_nil_of_length_eq_zero h)),show ((k:Int)+1)=((k+1:Nat):Int) by omega]
   exact ih (k+1) (by omega) (by omega)
 unfold chain
 rw [if_pos ⟨h1,h2⟩,if_pos h0]
 exact loop (xs.length - 1) 1 (Nat.le_refl _) (by omega)
def G (rows:List (List Int)):Prop:=[1]∈rows∧∀ r∈rows,∃ e:Int,r=[e]∧1≤e∧e≤1000001∧(e=1∨e=1000001∨∃ a b:Int,[a]∈rows∧[b]∈rows∧1≤a∧1≤b∧e=a+b)
theorem grow_G (ss:List St) (ho:InOrder 1 ss):∀ (d i:Nat) (rows:List (List Int)),i+d=ss.length→rows.length=1+i→G rows→G (grow ss d i rows)
 | 0,i,rows,_,_,h=>h
 | d+1,i,rows,hd,hr,h=>by
  obtain ⟨f0,f1,f2⟩:=ho i (by omega)
  have m0:=rd_mem rows _ f0 (by omega)
  have m1:=rd_mem rows _ (Int.le_trans f0 f1) (by omega)
  obtain ⟨a,ea,a1,a2,_⟩:=h.2 _ m0
  obtain ⟨b,eb,b1,b2,_⟩:=h.2 _ m1
  rw [grow,ea,eb,show ((i:Int)+1)=((i+1:Nat):Int) by omega]
  rw [ea] at m0
  rw [eb] at m1
  have en:addRow [a] [b]=[cap2 (wrap64 (a+b))]:=rfl
  rw [en,w64 (by omega) (by omega)]
  refine grow_G ss ho d (i+1) _ (by omega) (by rw [List.length_append,List.length_singleton];omega) ⟨List.mem_append_left _ h.1,fun r hr'=>?_⟩
  rcases List.mem_append.1 hr' with q|q
  ·obtain ⟨e,e1,e2,e3,e4⟩:=h.2 r q
   refine ⟨e,e1,e2,e3,?_⟩
   rcases e4 with e4|e4|⟨x,y,hx,hy,hh⟩
   ·exact .inl e4
   ·exact .inr (.inl e4)
   ·exact .inr (.inr ⟨x,y,List.mem_append_left _ hx,List.mem_append_left _ hy,hh⟩)
  ·rw [List.mem_singleton.1 q]
   unfold cap2
   by_cases c:a+b < 1000001
   ·rw [if_pos c]
    exact ⟨a+b,rfl,by omega,by omega,.inr (.inr ⟨a,b,List.mem_append_left _ m0,List.mem_append_left _ m1,a1,b1,rfl⟩)⟩
   ·rw [if_neg c]
    exact ⟨1000001,rfl,by omega,by omega,.inr (.inl rfl)⟩
theorem exps_G (ss:List St) (ho:InOrder 1 ss):G (exps 1 ss):=by
 refine grow_G ss ho ss.length 0 (base0 1 1) (by omega) (by rw [base0_length]) ⟨by decide,fun r hr=>?_⟩
 have:r=[1]:=by
  have e:base0 1 1=[[1]]:=by decide
  rw [e] at hr
  exact List.mem_singleton.1 hr
 exact ⟨1,this,by omega,by omega,.inl rfl⟩
def es (ss:List St):List Int:=(exps 1 ss).map (fun r=>rd r 0)
theorem mem_es (ss:List St) (ho:InOrder 1 ss) (x:Int):x∈es ss↔[x]∈exps 1 ss:=by
 unfold es
 rw [List.mem_map]
 constructor
 ·rintro ⟨r,hr,e⟩
  obtain ⟨y,rfl,_⟩:=(exps_G ss ho).2 r hr
  rw [← e];exact hr
 ·intro h;exact ⟨_,h,rfl⟩
theorem flat_es (rows:List (List Int)) (h:∀ r∈rows,∃ e:Int,r=[e]):rows.flatten=rows.map (fun r=>rd r 0):=by
 induction rows with
 | nil=>rfl
 | cons r rows ih=>
  obtain ⟨e,rfl⟩:=h r (List.mem_cons_self ..)
  rw [List.flatten_cons,List.map_cons,ih (fun r hr=>h r (List.mem_cons_of_mem _ hr))]
  rfl
def inc (l:List Int):List Int:=Go.Lib.compact (l.mergeSort fun x y=>decide (x≤y))
theorem inc_chain (ss:List St) (ho:InOrder 1 ss) (hs:ss.length≤40) (hb:∀ r∈exps 1 ss,∀ e∈r,0≤e∧e≤1000000):chain (inc (es ss))=true:=by
 have hp:(inc (es ss)).Pairwise (· < ·):=(inc_fact (es ss)).1
 have g:=exps_G ss ho
 have hl:(inc (es ss)).length≤41:=by
  unfold inc
  refine Nat.le_trans (Go.Lib.compact_length_le _) ?_
  rw [List.length_mergeSort]
  unfold es
  rw [List.length_map,(exps_ok 1 ss ho).1]
  omega
 have hmem:∀ x,x∈inc (es ss)↔[x]∈exps 1 ss:=fun x=>by rw [← mem_es ss ho];exact (inc_fact (es ss)).2 x
 generalize inc (es ss)=xs at hp hl hmem ⊢
 have hat:∀ x:Int,x∈xs→∃ i:Nat,i < xs.length∧rd xs (i:Int)=x:=fun x hx=>by
  obtain ⟨i,hi,e⟩:=List.mem_iff_getElem.1 hx
  exact ⟨i,hi,by rw [rd_ne xs i hi];exact e⟩
 have hst:∀ a b:Nat,a < b→b < xs.length→rd xs (a:Int) < rd xs (b:Int):=fun a b hab hb'=>by
  rw [rd_ne xs a (by omega),rd_ne xs b hb']
  exact List.pairwise_iff_getElem.1 hp a b (by omega) hb' hab
 have hin:∀ a:Nat,a < xs.length→[rd xs (a:Int)]∈exps 1 ss:=fun a ha=>(hmem _).1 (by rw [rd_ne xs a ha];exact List.getElem_mem _)
 have hge:∀ a:Nat,a < xs.length→1≤rd xs (a:Int)∧rd xs (a:Int)≤1000000:=fun a ha=>by
  have h1:=hin a ha
  obtain ⟨e,e1,e2,_⟩:=g.2 _ h1
  have e3:rd xs (a:Int)=e:=by injection e1
  have h2:=hb _ h1 _ (List.mem_singleton.2 rfl)
  omega
 obtain ⟨i1,hi1,e1⟩:=hat 1 ((hmem 1).2 g.1)
 have h0:rd xs 0=1:=by
  by_cases c:i1=0
  ·subst c;exact e1
  ·have a1:=hst 0 i1 (by omega) hi1
   have a2:=hge 0 (by omega)
   rw [show ((0:Nat):Int)=0 from rfl] at a1 a2
   omega
 refine chain_mk xs (by omega) hl h0 hst (fun a ha=>by have:=hge a ha;omega) (fun k h1 hk=>?_)
 obtain ⟨e,q1,q2,q3,q4⟩:=g.2 _ (hin k hk)
 have q5:rd xs (k:Int)=e:=by injection q1
 have hk1:=hst 0 k (by omega) hk
 have hk2:=hge k hk
 rw [show ((0:Nat):Int)=0 from rfl,h0] at hk1
 rcases q4 with q|q|⟨a,b,ha,hb',a1,b1,q⟩
 ·omega
 ·omega
 ·obtain ⟨i,hi,ei⟩:=hat a ((hmem a).2 ha)
  obtain ⟨j,hj,ej⟩:=hat b ((hmem b).2 hb')
  have lt:∀ m:Nat,m < xs.length→rd xs (m:Int) < rd xs (k:Int)→m < k:=fun m hm hlt=>by
   rcases Nat.lt_trichotomy m k with c|c|c
   ·exact c
   ·subst c;omega
   ·have:=hst k m c hm;omega
  have li:=lt i hi (by omega)
  have lj:=lt j hj (by omega)
  by_cases c:i≤j
  ·exact ⟨i,j,c,lj,by omega⟩
  ·exact ⟨j,i,by omega,li,by omega⟩
def copAns (n:Int) (ss:List St) (os:List Int):List Int × Bool:=if planOk n ss os=true∧n=1 then (inc (es ss),true) else ([],false)
theorem ne_false (n:Int) (h:n=1):(n != 1)=false:=by subst h;rfl
theorem ne_true (n:Int) (h : ¬ n=1):(n != 1)=true:=by simp [h]
theorem copImpl_ev (n:Int) (ss:List St) (os:List Int):Ev (fun k=>impl_ChainOfPlan.f k n ss os) (copAns n ss os):=by
 unfold impl_ChainOfPlan.f copAns
 refine ev_bind (isPlan_ev n ss os) ?_
 have fin:Ev (fun k=>impl_ChainOfPlan.j0 k true n ss os) (([],false):List Int × Bool):=by
  refine ev_shift ?_
  simp only [impl_ChainOfPlan.j0,if_true]
  exact Ev.now _
 by_cases c:planOk n ss os=true
 ·simp only [c,if_true]
  by_cases c1:n=1
  ·rw [if_pos ⟨trivial,c1⟩,ne_false n c1]
   obtain ⟨m,em,h1,h2,h3,h4,ho,hos,hb⟩:=planOk_of c
   obtain rfl:m=1:=by omega
   subst em
   have g:=exps_G ss ho
   have hlr:(exps 1 ss).length=1+ss.length:=(exps_ok 1 ss ho).1
   have hf:(exps 1 ss).flatten=es ss:=flat_es _ (fun r hr=>by obtain ⟨e,e1,_⟩:=g.2 r hr;exact ⟨e,e1⟩)
   have hel:(es ss).length=1+ss.length:=by unfold es;rw [List.length_map,hlr]
   have hcc:slices_Concat_int_int.f (exps 1 ss)=some (es ss):=by
    unfold slices_Concat_int_int.f
    rw [hf,if_pos ⟨by omega,by omega⟩]
   have hii:impl_increasing.f (es ss)=some (inc (es ss)):=by
    unfold impl_increasing.f inc
    rw [if_pos ⟨by omega,by omega⟩]
   refine ev_shift ?_
   simp only [impl_ChainOfPlan.j0,Bool.false_eq_true,if_false]
   refine ev_bind (exponents_ev 1 ss os (by omega) h3 ho) ?_
   simp only [hcc,hii,Option.bind_some]
   exact Ev.now _
  ·rw [if_neg (fun h=>c1 h.2),ne_true n c1]
   exact fin
 ·rw [if_neg (fun h=>c h.1)]
  simp only [if_neg c]
  exact fin
abbrev nstep:=impl_NeededPart.step
def marksAt (xs:List Int) (j:Nat):List Bool:=(Go.Proofs.YtlefjgpkabijdaaB.down (stepsOf xs).length j).foldl (nstep (stepsOf xs)) (impl_NeededPart.start xs.length)
theorem marksAt_succ (xs:List Int) (j:Nat):marksAt xs (j+1)=nstep (stepsOf xs) (marksAt xs j) ((stepsOf xs).length - 1 - j):=by
 unfold marksAt
 rw [Go.Proofs.YtlefjgpkabijdaaB.down_succ,List.foldl_append]
 rfl
def Inv (n:Nat) (nd:List Int) (m:List Bool):Prop:=nd.Pairwise (· < ·)∧m.length=n∧∀ x:Int,x∈nd↔(0≤x∧x < n)∧rdOf false m x=true
theorem rdOf_set (m:List Bool) (a x:Int) (h0:0≤a) (h1:a < m.length) (hx:0≤x):rdOf false (m.set a.toNat true) x=true↔rdOf false m x=true∨x=a:=by
 unfold rdOf
 simp only [List.getD_eq_getElem?_getD,List.getElem?_set]
 by_cases e:a.toNat=x.toNat
 ·have:x=a:=by omega
  rw [if_pos e,if_pos (by omega)]
  simp [this]
 ·rw [if_neg e]
  constructor
  ·exact .inl
  ·rintro (h|h)
   ·exact h
   ·exact absurd (by rw [h]) e
theorem Inv.put {n:Nat} {nd:List Int} {m:List Bool} (h:Inv n nd m) (a:Int) (h0:0≤a) (h1:a < n):Inv n (put nd a) (m.set a.toNat true):=by
 obtain ⟨p,l,q⟩:=h
 obtain ⟨a1,a2⟩:=put_fact nd a p
 refine ⟨a1,by rw [List.length_set];exact l,fun x=>?_⟩
 rw [a2,q]
 constructor
 ·rintro (⟨hx,hr⟩|e)
  ·exact ⟨hx,(rdOf_set m a x h0 (by omega) hx.1).2 (.inl hr)⟩
  ·subst e
   exact ⟨⟨h0,h1⟩,(rdOf_set m x x h0 (by omega) h0).2 (.inr rfl)⟩
 ·rintro ⟨hx,hr⟩
  rcases (rdOf_set m a x h0 (by omega) hx.1).1 hr with e|e
  ·exact .inl ⟨hx,e⟩
  ·exact .inr e
theorem Inv.start (n:Nat) (hn:1≤n):Inv n [((n - 1:Nat):Int)] (impl_NeededPart.start n):=by
 refine ⟨by simp,impl_NeededPart.start_length n,fun x=>?_⟩
 have hr:∀ y:Int,0≤y→(rdOf false (List.replicate n false) y=true↔False):=fun y hy=>by
  unfold rdOf
  simp only [List.getD_eq_getElem?_getD,List.getElem?_replicate]
  split <;> simp
 have hs:∀ y:Int,0≤y→(rdOf false (impl_NeededPart.start n) y=true↔y=((n - 1:Nat):Int)):=fun y hy=>by
  have:=rdOf_set (List.replicate n false) ((n - 1:Nat):Int) y (by omega) (by rw [List.length_replicate];omega) hy
  rw [Int.toNat_natCast,hr y hy] at this
  unfold impl_NeededPart.start
  rw [this]
  simp
 rw [List.mem_singleton]
 constructor
 ·intro e
  subst e
  exact ⟨⟨by omega,by omega⟩,(hs _ (by omega)).2 rfl⟩
 ·rintro ⟨hx,h⟩
  exact (hs x hx.1).1 h
theorem upto_eq (xs nd:List Int) (m:List Bool) (h:Inv xs.length nd m):impl_NeededPart.upto xs m xs.length=nd.map (fun x=>rd xs x):=by
 obtain ⟨p,l,q⟩:=h
 have e:nd=((List.range xs.length).filter fun (i:Nat)=>rdOf false m (i:Int)).map (fun i:Nat=>(i:Int)):=by
  refine strict_eq _ _ p ?_ (fun x=>?_)
  ·rw [List.pairwise_map]
   exact (List.pairwise_lt_range.sublist List.filter_sublist).imp (fun h=>by omega)
  ·rw [q,List.mem_map]
   constructor
   ·rintro ⟨⟨h0,h1⟩,hr⟩
    obtain ⟨x,rfl⟩:=Int.eq_ofNat_of_zero_le h0
    exact ⟨x,List.mem_filter.2 ⟨List.mem_range.2 (by omega),hr⟩,rfl⟩
   ·rintro ⟨i,hi,rfl⟩
    obtain ⟨hi1,hi2⟩:=List.mem_filter.1 hi
    have:=List.mem_range.1 hi1
    exact ⟨⟨by omega,by omega⟩,hi2⟩
 rw [e,List.map_map]
 unfold impl_NeededPart.upto
 generalize List.range xs.length=r
 induction r with
 | nil=>rfl
 | cons i r ih=>
  rw [List.flatMap_cons,ih,List.filter_cons]
  cases hb:rdOf false m (i:Int) <;> simp
def needAns (xs:List Int):List Int × Bool:=if chain xs=true then (impl_NeededPart.upto xs (marksAt xs (stepsOf xs).length) xs.length,true) else ([],false)
theorem needAns_short (xs:List Int):(needAns xs).1.length≤1000000:=by
 unfold needAns
 by_cases c:chain xs=true
 ·rw [if_pos c]
  have:=(chain_from xs c).2.1
  exact Nat.le_trans (impl_NeededPart.upto_length xs _ _) (by omega)
 ·rw [if_neg c];simp
theorem out_loop (xs nd:List Int) (hn:∀ x∈nd,0≤x∧x < xs.length) (hl:nd.length≤100000):∀ (d i:Nat) (acc:List Int),i+d=nd.length→acc.length+d≤100000→Ev (fun f=>spec_NeededPart.l1 f xs acc nd nd.length i) (acc++(nd.drop i).map (fun x=>rd xs x),true):=by
 intro d
 induction d with
 | zero=>
  intro i acc hd ha
  refine ev_shift ?_
  rw [List.drop_of_length_le (by omega)]
  simp only [spec_NeededPart.l1,if_neg (show ¬ (i:Int) < (nd.length:Int) by omega),List.map_nil,List.append_nil]
  exact Ev.now _
 | succ d ih=>
  intro i acc hd ha
  have i1:=ih (i+1) (acc++[rd xs (rd nd (i:Int))]) (by omega) (by rw [List.length_append,List.length_singleton];omega)
  have hm:=hn (rd nd (i:Int)) (by rw [rd_ne nd i (by omega)];exact List.getElem_mem _)
  refine ev_shift ?_
  simp only [spec_NeededPart.l1,if_pos (show (i:Int) < (nd.length:Int) by omega),if_pos (show (0:Int)≤(i:Int) by omega),if_pos hm.1,if_pos hm.2,if_pos (show acc.length < 17592186044416 by omega),w64 (show -9223372036854775808≤(i:Int)+1 by omega) (by omega)]
  rw [drop_cons nd i (by omega),List.map_cons]
  rw [List.append_assoc,List.singleton_append] at i1
  exact i1
theorem need_loop (xs:List Int) (c:chain xs=true) (hL:(stepsOf xs).length=xs.length - 1) (h1:1≤xs.length) (h41:xs.length≤41):∀ (d:Nat) (nd:List Int),d≤xs.length - 1→nd.length+2*d≤1000→Inv xs.length nd (marksAt xs (xs.length - 1 - d))→Ev (fun f=>spec_NeededPart.l0 f xs (stepsOf xs) nd d) (impl_NeededPart.upto xs (marksAt xs (xs.length - 1)) xs.length,true):=by
 intro d
 induction d with
 | zero=>
  intro nd hd ha hi
  refine ev_shift ?_
  simp only [spec_NeededPart.l0,if_neg (show ¬ ((0:Nat):Int) > 0 by omega)]
  rw [Nat.sub_zero] at hi
  rw [upto_eq xs nd _ hi]
  have:=out_loop xs nd (fun x hx=>((hi.2.2 x).1 hx).1) (by omega) nd.length 0 [] (by omega) (by simp;omega)
  rw [List.drop_zero,List.nil_append] at this
  exact this
 | succ d ih=>
  intro nd hd ha hi
  have hw:wrap64 (((d+1:Nat):Int) - 1)=(d:Int):=by rw [show ((d+1:Nat):Int) - 1=(d:Int) by omega];exact w64 (by omega) (by omega)
  have hms:=marksAt_succ xs (xs.length - 1 - (d+1))
  rw [show xs.length - 1 - (d+1)+1=xs.length - 1 - d by omega,hL,show xs.length - 1 - 1 - (xs.length - 1 - (d+1))=d by omega] at hms
  obtain ⟨f0,f1,f2,_⟩:=stepOf_fact xs c d (by omega)
  have g0:(rdS (stepsOf xs) (d:Int)).f0 < (xs.length:Int):=by omega
  have g1:0≤(rdS (stepsOf xs) (d:Int)).f1:=by omega
  have g2:(rdS (stepsOf xs) (d:Int)).f1 < (xs.length:Int):=by omega
  have hmem:=hi.2.2 ((d+1:Nat):Int)
  have hlen:=hi.2.1
  refine ev_shift ?_
  simp only [spec_NeededPart.l0,if_pos (show ((d+1:Nat):Int) > 0 by omega),hw,if_pos (show (0:Int)≤(d:Int) by omega),if_pos (show (d:Int) < ((stepsOf xs).length:Int) by omega)]
  refine ev_bind (l1Has_ev nd ((d+1:Nat):Int) (by omega)) ?_
  rw [has_mem]
  by_cases q:((d+1:Nat):Int)∈nd
  ·simp only [decide_eq_true q,if_true]
   refine ev_bind (l1Put_ev nd _ (by omega)) ?_
   refine ev_bind (l1Put_ev _ _ (by have:=put_length nd (rdS (stepsOf xs) (d:Int)).f0;show (put nd (rdS (stepsOf xs) (d:Int)).f0).length≤100000000;omega)) ?_
   refine ih _ (by omega) (by have a1:=put_length nd (rdS (stepsOf xs) (d:Int)).f0;have a2:=put_length (put nd (rdS (stepsOf xs) (d:Int)).f0) (rdS (stepsOf xs) (d:Int)).f1;show (put (put nd (rdS (stepsOf xs) (d:Int)).f0) (rdS (stepsOf xs) (d:Int)).f1).length+2*d≤1000;omega) ?_
   rw [hms]
   unfold nstep impl_NeededPart.step
   rw [if_pos (show rdOf false (marksAt xs (xs.length - 1 - (d+1))) ((d:Int)+1)=true from (hmem.1 q).2)]
   exact (hi.put _ f0 g0).put _ g1 g2
  ·simp only [decide_eq_false q,Bool.false_eq_true,if_false]
   refine ih nd (by omega) (by omega) ?_
   rw [hms]
   unfold nstep impl_NeededPart.step
   rw [if_neg (show ¬ rdOf false (marksAt xs (xs.length - 1 - (d+1))) ((d:Int)+1)=true from fun h=>q (hmem.2 ⟨⟨by omega,by omega⟩,h⟩))]
   exact hi
theorem needSpec_ev (xs:List Int) (hl:xs.length≤1048576):Ev (fun f=>spec_NeededPart.f f xs) (needAns xs):=by
 unfold spec_NeededPart.f needAns
 refine ev_bind (chGood_ev xs hl) ?_
 by_cases c:chain xs=true
 ·obtain ⟨h1,h41,_,_⟩:=chain_from xs c
  have hL:(stepsOf xs).length=xs.length - 1:=by unfold stepsOf;rw [stepsFrom_length]
  have w1:wrap64 ((xs.length:Int) - 1)=((xs.length - 1:Nat):Int):=by rw [w64 (by omega) (by omega)];omega
  simp only [c,if_true,w1]
  refine ev_bind (chSteps_ev xs c) ?_
  rw [hL]
  refine need_loop xs c hL h1 h41 (xs.length - 1) _ (Nat.le_refl _) (by simp;omega) ?_
  rw [Nat.sub_self]
  exact Inv.start xs.length h1
 ·simp only [if_neg c]
  exact Ev.now _
theorem needImpl_ev (xs:List Int) (hl:xs.length≤1048576):Ev (fun f=>impl_NeededPart.f f xs) (needAns xs):=by
 unfold impl_NeededPart.f needAns
 refine ev_bind (isChain_ev xs hl) ?_
 by_cases c:chain xs=true
 ·obtain ⟨h1,h41,_,_⟩:=chain_from xs c
  have hL:(stepsOf xs).length=xs.length - 1:=by unfold stepsOf;rw [stepsFrom_length]
  simp only [c,if_true]
  refine ev_bind (chainSteps_ev xs c) ?_
  have hok:impl_NeededPart.ok xs (stepsOf xs)=true:=by
   unfold impl_NeededPart.ok
   simp only [Bool.and_eq_true,decide_eq_true_eq,List.all_eq_true]
   refine ⟨⟨⟨h1,by omega⟩,by omega⟩,fun s hs=>?_⟩
   obtain ⟨j,hj,rfl⟩:=List.mem_iff_getElem.1 hs
   obtain ⟨f0,f1,f2,_⟩:=stepOf_fact xs c j (by omega)
   have e:rdS (stepsOf xs) (j:Int)=(stepsOf xs)[j]:=by rw [rdS_nat];simp [List.getD,hj]
   rw [e] at f0 f1 f2
   exact ⟨⟨⟨f0,by omega⟩,by omega⟩,by omega⟩
  simp only [hok,if_true]
  exact Ev.now _
 ·simp only [if_neg c]
  exact Ev.now _
def insAns (xs:List Int) (n:Int):List Int × Bool:=if chain xs=true∧(1≤n∧n≤1000000)∧has xs n=false then ifChain (put xs n) else ([],false)
theorem insAns_short (xs:List Int) (n:Int):(insAns xs n).1.length≤1000000:=by
 unfold insAns
 split
 ·exact ifChain_short _
 ·simp
theorem num_eq (n:Int):spec_chNumber.f n=some (decide (1≤n) && decide (n≤1000000)):=by unfold spec_chNumber.f;rw [l1In_eq];rfl
theorem isNum_eq (n:Int):impl_isNumber.f n=some (decide (1≤n) && decide (n≤1000000)):=by unfold impl_isNumber.f;rw [in_eq];rfl
theorem insSpec_ev (xs:List Int) (n:Int) (hl:xs.length≤1048576):Ev (fun f=>spec_InsertNumber.f f xs n) (insAns xs n):=by
 unfold spec_InsertNumber.f insAns
 refine ev_bind (chGood_ev xs hl) ?_
 simp only [num_eq,Option.bind_some]
 have fin:Ev (fun f=>spec_InsertNumber.j0 f xs n true) (([],false):List Int × Bool):=by
  refine ev_shift ?_
  simp only [spec_InsertNumber.j0,if_true]
  exact Ev.now _
 by_cases c:chain xs=true
 ·simp only [c,if_true]
  by_cases c2:1≤n∧n≤1000000
  ·simp only [decide_eq_true c2.1,decide_eq_true c2.2,Bool.and_self,if_true]
   refine ev_bind (l1Has_ev xs n (by omega)) ?_
   cases e:has xs n with
   | true=>rw [if_neg (fun h=>by simp at h)];exact fin
   | false=>
    rw [if_pos ⟨trivial,c2,rfl⟩]
    refine ev_shift ?_
    simp only [spec_InsertNumber.j0,Bool.false_eq_true,if_false]
    refine ev_bind (l1Put_ev xs n (by omega)) ?_
    exact ev_bind (chIf_ev _ (by have:=put_length xs n;have:=(chain_from xs c).2.1;omega)) (Ev.now _)
  ·rw [if_neg (fun h=>c2 h.2.1)]
   have e:(decide (1≤n) && decide (n≤1000000))=false:=by rw [Bool.and_eq_false_iff,decide_eq_false_iff_not,decide_eq_false_iff_not];omega
   simp only [e,Bool.false_eq_true,if_false]
   exact fin
 ·rw [if_neg (fun h=>c h.1)]
  simp only [if_neg c]
  exact fin
theorem insImpl_ev (xs:List Int) (n:Int) (hl:xs.length≤1048576):Ev (fun f=>impl_InsertNumber.f f xs n) (insAns xs n):=by
 unfold impl_InsertNumber.f insAns
 obtain ⟨m,m1,m2,m3⟩:=bins_any xs n (by omega)
 refine ev_bind m2 ?_
 refine ev_bind (isChain_ev xs hl) ?_
 simp only [isNum_eq,Option.bind_some]
 by_cases c:chain xs=true
 ·have cf:=chain_from xs c
  have rise:=chain_rises xs c
  have e:=m3 rise
  have fh:=found_has xs n rise
  rw [e] at fh
  simp only [c,if_true,fh]
  by_cases c2:1≤n∧n≤1000000
  ·simp only [decide_eq_true c2.1,decide_eq_true c2.2,Bool.and_self,if_true]
   cases eh:has xs n with
   | true=>rw [if_neg (fun h=>by simp at h)];simp only [if_true];exact Ev.now _
   | false=>
    rw [if_pos ⟨trivial,c2,rfl⟩]
    simp only [Bool.false_eq_true,if_false,impl_InsertNumber.j,if_pos (show 0 < xs.length by omega),if_pos (show xs.length≤1000000 by omega),if_pos (show (0:Int)≤(m:Int) by omega),if_pos (show (m:Int)≤(xs.length:Int) by omega),Int.toNat_natCast]
    have ep:xs.take m++n :: xs.drop m=put xs n:=by
     unfold put putAt
     rw [e,if_neg]
     intro h
     rw [eh] at fh
     unfold found at fh
     rw [decide_eq_true h] at fh
     cases fh
    rw [ep]
    exact told_ev _ (by have:=put_length xs n;omega)
  ·rw [if_neg (fun h=>c2 h.2.1)]
   have e:(decide (1≤n) && decide (n≤1000000))=false:=by rw [Bool.and_eq_false_iff,decide_eq_false_iff_not,decide_eq_false_iff_not];omega
   simp only [e,Bool.false_eq_true,if_false]
   exact Ev.now _
 ·rw [if_neg (fun h=>c h.1)]
  simp only [if_neg c]
  exact Ev.now _
theorem u8_of {x:Int} (h:(Lit.int .u8 x).wf=true):0≤x∧x≤255:=by
 simpa [Lit.wf,IntKind.min,IntKind.max,IntKind.signed,IntKind.bits] using h
theorem rd_u8 {code:List Int} (hc:∀ x∈code,0≤x∧x≤255) (i:Int):0≤rd code i∧rd code i≤255:=by
 unfold rd
 by_cases h:i.toNat < code.length
 ·have:=hc _ (List.getElem_mem h)
  simpa [List.getD,h] using this
 ·simp [List.getD,h]
theorem u64_low (x:Int):0≤wrap64 (Go.bits .and .u64 (IntKind.u64.wrap x / 1099511627776) 255)∧wrap64 (Go.bits .and .u64 (IntKind.u64.wrap x / 1099511627776) 255)≤255:=by
 have h:0≤IntKind.u64.wrap x / 1099511627776∧IntKind.u64.wrap x / 1099511627776 < 2 ^ 32:=by rw [IntKind.wrap_u64];omega
 generalize IntKind.u64.wrap x / 1099511627776=y at h ⊢
 have e:Go.bits .and .u64 y (2 ^ 8 - 1)=y % 2 ^ 8:=bits_mask .u64 32 (by decide) (fun n a b=>by rw [IntKind.wrap_u64];omega) 8 (by decide) y h.1 h.2
 rw [show (255:Int)=2 ^ 8 - 1 by decide,e,w64 (by omega) (by omega)]
 omega
theorem next_ok {code:List Int} (hc:∀ x∈code,0≤x∧x≤255) (at_ seed:Int) (h0:0≤at_) (h1:at_≤1000000000) : ∃ v s,spec_l1Cur_next.f code at_ seed=some (v,at_+1,s)∧0≤v∧v≤255:=by
 unfold spec_l1Cur_next.f
 have w1:wrap64 (at_+1)=at_+1:=w64 (by omega) (by omega)
 obtain ⟨r0,r1⟩:=rd_u8 hc at_
 rw [w1]
 by_cases c:at_ < (code.length:Int)
 ·rw [if_pos c,if_pos h0]
  by_cases d:at_+1≤(code.length:Int)
  ·rw [if_pos d,w64 (by omega) (by omega)]
   exact ⟨_,_,rfl,r0,r1⟩
  ·rw [if_neg d]
   exact ⟨_,_,rfl,u64_low _⟩
 ·rw [if_neg c]
  by_cases d:at_+1≤(code.length:Int)
  ·rw [if_pos d]
   exact ⟨_,_,rfl,by omega,by omega⟩
  ·rw [if_neg d]
   exact ⟨_,_,rfl,u64_low _⟩
theorem pick_ok {code:List Int} (hc:∀ x∈code,0≤x∧x≤255) (at_ seed n:Int) (h0:0≤at_) (h1:at_≤999999000) : ∃ v a s,spec_l1Cur_pick.f code at_ seed n=some (v,a,s)∧0≤v∧(v < n∨v=0)∧at_≤a∧a≤at_+2:=by
 unfold spec_l1Cur_pick.f
 by_cases c:n≤1
 ·rw [if_pos c]
  exact ⟨_,_,_,rfl,by omega,.inr rfl,by omega,by omega⟩
 ·rw [if_neg c]
  obtain ⟨v,s,e,v0,v1⟩:=next_ok hc at_ seed h0 (by omega)
  rw [e,Option.bind_some]
  by_cases d:n > 200
  ·rw [if_pos d]
   obtain ⟨v',s',e',v0',v1'⟩:=next_ok hc (at_+1) s (by omega) (by omega)
   show ∃ v a s,((spec_l1Cur_next.f code (at_+1) _).bind _)=_∧_
   rw [e',Option.bind_some,if_neg (show ¬ n=0 by omega),w64 (show -9223372036854775808≤v*256 by omega) (by omega)]
   have hp:0≤v*256+v':=by omega
   rw [w64 (by omega) (by omega)]
   refine ⟨_,_,_,rfl,Int.tmod_nonneg _ hp,.inl ?_,by show at_≤at_+1+1;omega,by show at_+1+1≤_;omega⟩
   exact Int.tmod_lt_of_pos _ (by omega)
  ·rw [if_neg d,if_neg (show ¬ n=0 by omega)]
   refine ⟨_,_,_,rfl,Int.tmod_nonneg _ v0,.inl ?_,by show at_≤at_+1;omega,by show at_+1≤_;omega⟩
   exact Int.tmod_lt_of_pos _ (by omega)
theorem one_ok {code:List Int} (hc:∀ x∈code,0≤x∧x≤255) (at_ seed n:Int) (h0:0≤at_) (h1:at_≤999999000) : ∃ v a s,spec_l1Cur_one.f code at_ seed n=some (v,a,s)∧at_≤a∧a≤at_+2:=by
 unfold spec_l1Cur_one.f
 obtain ⟨v,a,s,e,_,_,a1,a2⟩:=pick_ok hc at_ seed n h0 h1
 rw [e]
 exact ⟨_,_,_,rfl,a1,a2⟩
theorem among_ok {code:List Int} (hc:∀ x∈code,0≤x∧x≤255) (at_ seed:Int) (l:List Int) (hl:l.length≠0) (h0:0≤at_) (h1:at_≤999999000) : ∃ v a s,spec_l1Cur_among.f code at_ seed l=some (v,a,s)∧at_≤a∧a≤at_+2:=by
 unfold spec_l1Cur_among.f
 obtain ⟨v,a,s,e,v0,v1,a1,a2⟩:=pick_ok hc at_ seed l.length h0 h1
 rw [e,Option.bind_some,if_pos (show (0:Int)≤v from v0),if_pos (show v < (l.length:Int) by omega)]
 exact ⟨_,_,_,rfl,a1,a2⟩
theorem number_ok {code:List Int} (hc:∀ x∈code,0≤x∧x≤255) (at_ seed:Int) (h0:0≤at_) (h1:at_≤900000000) : ∃ v a s,spec_l1Cur_number.f code at_ seed=some (v,a,s)∧at_≤a∧a≤at_+10:=by
 unfold spec_l1Cur_number.f
 obtain ⟨v,a,s,e,v0,v1,a1,a2⟩:=pick_ok hc at_ seed 8 h0 (by omega)
 rw [e,Option.bind_some]
 dsimp only
 by_cases c:v=0
 ·rw [if_pos c]
  obtain ⟨v',a',s',e',b1,b2⟩:=among_ok hc a s [(-1),0,1,2,1000000,1000001] (by decide) (by omega) (by omega)
  rw [e']
  exact ⟨_,_,_,rfl,by show at_≤a';omega,by show a'≤_;omega⟩
 ·rw [if_neg c]
  by_cases d:v=1
  ·rw [if_pos d]
   obtain ⟨v',a',s',e',_,_,b1,b2⟩:=pick_ok hc a s 1000000 (by omega) (by omega)
   rw [e']
   exact ⟨_,_,_,rfl,by show at_≤a';omega,by show a'≤_;omega⟩
  ·rw [if_neg d]
   obtain ⟨v',a',s',e',_,_,b1,b2⟩:=pick_ok hc a s 120 (by omega) (by omega)
   rw [e']
   exact ⟨_,_,_,rfl,by show at_≤a';omega,by show a'≤_;omega⟩
theorem put_ev (xs:List Int) (v:Int) (hl:xs.length≤1000) (hn:xs≠[]) : ∃ ys:List Int,ys≠[]∧ys.length≤xs.length+1∧Ev (fun k=>spec_l1Put.f k xs v) ys:=by
 have fin:∀ i:Nat,i≤xs.length→(([]++xs.take i)++[v])++xs.drop i≠[]∧((([]++xs.take i)++[v])++xs.drop i).length≤xs.length+1:=fun i hi=>by
  refine ⟨by simp,?_⟩
  simp only [List.nil_append,List.length_append,List.length_take,List.length_drop,List.length_singleton]
  omega
 have loop:∀ (d i:Nat),i+d=xs.length→∃ ys:List Int,ys≠[]∧ys.length≤xs.length+1∧Ev (fun k=>spec_l1Put.l0 k xs v i) ys:=by
  intro d
  induction d with
  | zero=>
   intro i hd
   obtain ⟨f1,f2⟩:=fin i (by omega)
   refine ⟨_,f1,f2,ev_shift ?_⟩
   have l1:([]++xs.take i:List Int).length≤1000:=by simp only [List.nil_append,List.length_take];omega
   have l2:(([]++xs.take i:List Int)++[v]).length≤1001:=by rw [List.length_append,List.length_singleton];omega
   simp only [spec_l1Put.l0,if_neg (show ¬ (i:Int) < (xs.length:Int) by omega),Option.bind_some,if_pos (show (0:Int)≤(i:Int) by omega),if_pos (show (i:Int)≤(xs.length:Int) by omega),Int.toNat_natCast,if_pos (show ([]:List Int).length+(xs.take i).length < 17592186044416 by rw [List.length_take];simp only [List.length_nil];omega),if_pos (show ([]++xs.take i:List Int).length < 17592186044416 by omega),if_pos (show (([]++xs.take i:List Int)++[v]).length+(xs.drop i).length < 17592186044416 by rw [List.length_drop];omega)]
   exact Ev.now _
  | succ d ih=>
   intro i hd
   obtain ⟨ys,y1,y2,y3⟩:=ih (i+1) (by omega)
   by_cases c:rd xs (i:Int) < v
   ·refine ⟨ys,y1,y2,ev_shift ?_⟩
    simp only [spec_l1Put.l0,if_pos (show (i:Int) < (xs.length:Int) by omega),if_pos (show (0:Int)≤(i:Int) by omega),if_pos c,w64 (show -9223372036854775808≤(i:Int)+1 by omega) (by omega)]
    exact y3
   ·by_cases e:rd xs (i:Int)=v
    ·refine ⟨xs,hn,by omega,ev_shift ?_⟩
     simp only [spec_l1Put.l0,if_pos (show (i:Int) < (xs.length:Int) by omega),if_pos (show (0:Int)≤(i:Int) by omega),if_neg c,if_pos e]
     exact Ev.now _
    ·obtain ⟨f1,f2⟩:=fin i (by omega)
     refine ⟨_,f1,f2,ev_shift ?_⟩
     have l1:([]++xs.take i:List Int).length≤1000:=by simp only [List.nil_append,List.length_take];omega
     have l2:(([]++xs.take i:List Int)++[v]).length≤1001:=by rw [List.length_append,List.length_singleton];omega
     simp only [spec_l1Put.l0,if_pos (show (i:Int) < (xs.length:Int) by omega),if_neg c,if_neg e,Option.bind_some,if_pos (show (0:Int)≤(i:Int) by omega),if_pos (show (i:Int)≤(xs.length:Int) by omega),Int.toNat_natCast,if_pos (show ([]:List Int).length+(xs.take i).length < 17592186044416 by rw [List.length_take];simp only [List.length_nil];omega),if_pos (show ([]++xs.take i:List Int).length < 17592186044416 by omega),if_pos (show (([]++xs.take i:List Int)++[v]).length+(xs.drop i).length < 17592186044416 by rw [List.length_drop];omega)]
     exact Ev.now _
 exact loop xs.length 0 (by omega)
theorem drawChain_ev (B:Int) (B0:0≤B) (B1:B≤100000000) {code:List Int} (hc:∀ x∈code,0≤x∧x≤255) (at_ seed n:Int) (h0:0≤at_) (h1:at_≤B+100000) (hn:n≤100) (hn0:0≤n) : ∃ (ys:List Int) (a s:Int),ys≠[]∧ys.length≤200∧0≤a∧a≤B+500000∧Ev (fun k=>spec_l1Cur_chain.f k code at_ seed n) (ys,a,s):=by
 unfold spec_l1Cur_chain.f
 obtain ⟨m,q,t,e,m0,m1,q1,q2⟩:=pick_ok hc at_ seed (wrap64 (n+1)) h0 (by omega)
 rw [w64 (by omega) (by omega)] at e m1
 simp only [w64 (show -9223372036854775808≤n+1 by omega) (by omega),e,Option.bind_some]
 have loop:∀ (d:Nat) (xs:List Int) (at_ seed:Int),d≤101→xs≠[]→xs.length+d≤150→0≤at_→at_+100*(d:Int)≤B+400000→∃ (ys:List Int) (a s:Int),ys≠[]∧ys.length≤200∧0≤a∧a≤B+500000∧Ev (fun k=>spec_l1Cur_chain.l0 k xs d code at_ seed) (ys,a,s):=by
  intro d
  induction d with
  | zero=>
   intro xs at_ seed hd hx hl h0 h1
   refine ⟨xs,at_,seed,hx,by omega,h0,by omega,ev_shift ?_⟩
   simp only [spec_l1Cur_chain.l0,if_neg (show ¬ ((0:Nat):Int) > 0 by omega)]
   exact Ev.now _
  | succ d ih=>
   intro xs at_ seed hd hx hl h0 h1
   have hp:=List.length_pos_iff.2 hx
   obtain ⟨b,q,t,e,q1,q2⟩:=one_ok hc at_ seed 4 h0 (by omega)
   have hw:wrap64 (((d+1:Nat):Int) - 1)=(d:Int):=by rw [show ((d+1:Nat):Int) - 1=(d:Int) by omega];exact w64 (by omega) (by omega)
   have step:∀ (x:Int) (q t:Int),0≤q→q+100*(d:Int)≤B+399950→∃ (ys:List Int) (a s:Int),ys≠[]∧ys.length≤200∧0≤a∧a≤B+500000∧Ev (fun k=>spec_l1Cur_chain.j1 k xs ((d+1:Nat):Int) x code q t) (ys,a,s):=by
    intro x q t g0 g1
    obtain ⟨v,q',t',e',v0,v1,r1,r2⟩:=pick_ok hc q t xs.length g0 (by omega)
    by_cases c:wrap64 (x+rd xs v)≤1000000
    ·obtain ⟨zs,z1,z2,z3⟩:=put_ev xs (wrap64 (x+rd xs v)) (by omega) hx
     obtain ⟨ys,a,s,y1,y2,y3,y4,y5⟩:=ih zs q' t' (by omega) z1 (by omega) (by omega) (by omega)
     refine ⟨ys,a,s,y1,y2,y3,y4,ev_shift ?_⟩
     simp only [spec_l1Cur_chain.j1,e',Option.bind_some,if_pos v0,if_pos (show v < (xs.length:Int) by omega),if_pos c,hw]
     exact ev_bind z3 y5
    ·obtain ⟨ys,a,s,y1,y2,y3,y4,y5⟩:=ih xs q' t' (by omega) hx (by omega) (by omega) (by omega)
     refine ⟨ys,a,s,y1,y2,y3,y4,ev_shift ?_⟩
     simp only [spec_l1Cur_chain.j1,e',Option.bind_some,if_pos v0,if_pos (show v < (xs.length:Int) by omega),if_neg c,hw]
     exact y5
   have w1:wrap64 ((xs.length:Int) - 1)=(xs.length:Int) - 1:=w64 (by omega) (by omega)
   cases b with
   | true=>
    obtain ⟨v,q',t',e',v0,v1,r1,r2⟩:=pick_ok hc q t xs.length (by omega) (by omega)
    obtain ⟨ys,a,s,y1,y2,y3,y4,y5⟩:=step (rd xs v) q' t' (by omega) (by omega)
    refine ⟨ys,a,s,y1,y2,y3,y4,ev_shift ?_⟩
    simp only [spec_l1Cur_chain.l0,if_pos (show ((d+1:Nat):Int) > 0 by omega),w1,if_pos (show (0:Int)≤(xs.length:Int) - 1 by omega),if_pos (show (xs.length:Int) - 1 < (xs.length:Int) by omega),e,e',Option.bind_some,if_true,if_pos v0,if_pos (show v < (xs.length:Int) by omega)]
    exact y5
   | false=>
    obtain ⟨ys,a,s,y1,y2,y3,y4,y5⟩:=step (rd xs ((xs.length:Int) - 1)) q t (by omega) (by omega)
    refine ⟨ys,a,s,y1,y2,y3,y4,ev_shift ?_⟩
    simp only [spec_l1Cur_chain.l0,if_pos (show ((d+1:Nat):Int) > 0 by omega),w1,if_pos (show (0:Int)≤(xs.length:Int) - 1 by omega),if_pos (show (xs.length:Int) - 1 < (xs.length:Int) by omega),e,Option.bind_some,Bool.false_eq_true,if_false]
    exact y5
 obtain ⟨r,rfl⟩:=Int.eq_ofNat_of_zero_le m0
 exact loop r [1] q t (by omega) (by simp) (by simp;omega) (by omega) (by omega)
theorem drawAny_ev (B:Int) (B0:0≤B) (B1:B≤100000000) {code:List Int} (hc:∀ x∈code,0≤x∧x≤255) (at_ seed n:Int) (h0:0≤at_) (h1:at_≤B+100000) (hn:n≤100) (hn0:0≤n) : ∃ (ys:List Int) (a s:Int),ys.length≤1000∧0≤a∧a≤B+1000000∧Ev (fun k=>spec_l1Cur_anyChain.f k code at_ seed n) (ys,a,s):=by
 unfold spec_l1Cur_anyChain.f
 obtain ⟨xs,q,t,x1,x2,x3,x4,x5⟩:=drawChain_ev B B0 B1 hc at_ seed n h0 h1 hn hn0
 have hp:=List.length_pos_iff.2 x1
 obtain ⟨v,q',t',e,v0,v1,r1,r2⟩:=pick_ok hc q t 14 x3 (by omega)
 by_cases c0:v=0
 ·obtain ⟨i,q2,t2,e2,i0,i1,s1,s2⟩:=pick_ok hc q' t' xs.length (by omega) (by omega)
  obtain ⟨j,q3,t3,e3,_,_,u1,u2⟩:=pick_ok hc q2 t2 3 (by omega) (by omega)
  refine ⟨xs.set i.toNat (wrap64 (rd xs i+wrap64 (j - 1))),q3,t3,?_,by omega,by omega,ev_bind x5 ?_⟩
  rotate_left
  ·simp only [e,Option.bind_some,if_pos c0,e2,if_pos i0,if_pos (show i < (xs.length:Int) by omega),e3]
   exact Ev.now _
  ·rw [List.length_set];omega
 ·by_cases c1:v=1
  ·obtain ⟨i,q2,t2,e2,i0,i1,s1,s2⟩:=pick_ok hc q' t' 40 (by omega) (by omega)
   refine ⟨xs++[i],q2,t2,?_,by omega,by omega,ev_bind x5 ?_⟩
   rotate_left
   ·simp only [e,Option.bind_some,if_neg c0,if_pos c1,e2,if_pos (show xs.length < 17592186044416 by omega)]
    exact Ev.now _
   ·rw [List.length_append,List.length_singleton];omega
  ·by_cases c2:v=2
   ·refine ⟨[],q',t',by simp,by omega,by omega,ev_bind x5 ?_⟩
    simp only [e,Option.bind_some,if_neg c0,if_neg c1,if_pos c2]
    exact Ev.now _
   ·by_cases c3:v=3
    ·have loop:∀ (d:Nat) (zs:List Int) (at_ seed:Int),zs.length+d=42→0≤at_→at_+10*(d:Int)≤B+900000→∃ (ys:List Int) (a s:Int),ys.length≤1000∧0≤a∧a≤B+1000000∧Ev (fun k=>spec_l1Cur_anyChain.l0 k zs code at_ seed) (ys,a,s):=by
      intro d
      induction d with
      | zero=>
       intro zs at_ seed hz h0 h1
       obtain ⟨b,q2,t2,e2,b0,b1,s1,s2⟩:=pick_ok hc at_ seed 2 h0 (by omega)
       refine ⟨zs,q2,t2,by omega,by omega,by omega,ev_shift ?_⟩
       simp only [spec_l1Cur_anyChain.l0,e2,Option.bind_some,w64 (show -9223372036854775808≤41+b by omega) (by omega),if_neg (show ¬ (zs.length:Int) < 41+b by omega)]
       exact Ev.now _
      | succ d ih=>
       intro zs at_ seed hz h0 h1
       obtain ⟨b,q2,t2,e2,b0,b1,s1,s2⟩:=pick_ok hc at_ seed 2 h0 (by omega)
       by_cases c:(zs.length:Int) < 41+b
       ·obtain ⟨ys,a,s,y2,y3,y4,y5⟩:=ih (zs++[wrap64 ((zs.length:Int)+1)]) q2 t2 (by rw [List.length_append,List.length_singleton];omega) (by omega) (by omega)
        refine ⟨ys,a,s,y2,y3,y4,ev_shift ?_⟩
        simp only [spec_l1Cur_anyChain.l0,e2,Option.bind_some,w64 (show -9223372036854775808≤41+b by omega) (by omega),if_pos c,if_pos (show zs.length < 17592186044416 by omega)]
        exact y5
       ·refine ⟨zs,q2,t2,by omega,by omega,by omega,ev_shift ?_⟩
        simp only [spec_l1Cur_anyChain.l0,e2,Option.bind_some,w64 (show -9223372036854775808≤41+b by omega) (by omega),if_neg c]
        exact Ev.now _
     obtain ⟨ys,a,s,y2,y3,y4,y5⟩:=loop 42 [] q' t' (by simp) (by omega) (by omega)
     refine ⟨ys,a,s,y2,y3,y4,ev_bind x5 ?_⟩
     simp only [e,Option.bind_some,if_neg c0,if_neg c1,if_neg c2,if_pos c3]
     exact y5
    ·by_cases c4:v=4
     ·obtain ⟨i,q2,t2,e2,i0,i1,s1,s2⟩:=pick_ok hc q' t' 4 (by omega) (by omega)
      refine ⟨[1,2,4,8,16,32,64,128,256,512,1024,2048,4096,8192,16384,32768,65536,131072,262144,524288]++[786432,wrap64 (786432+wrap64 (131072*i))],q2,t2,?_,by omega,by omega,ev_bind x5 ?_⟩
      rotate_left
      ·simp only [e,Option.bind_some,if_neg c0,if_neg c1,if_neg c2,if_neg c3,if_pos c4,e2,List.length_cons,List.length_nil,Nat.reduceAdd,if_pos (show 22 < 17592186044416 by decide)]
       exact Ev.now _
      ·simp
     ·refine ⟨xs,q',t',by omega,by omega,by omega,ev_bind x5 ?_⟩
      simp only [e,Option.bind_some,if_neg c0,if_neg c1,if_neg c2,if_neg c3,if_neg c4]
      exact Ev.now _
theorem sameInts_ev (l:List Int) (hl:l.length≤1000000):Ev (fun k=>laws_pSameInts.f k l l) true:=by
 have loop:∀ (d i:Nat),i+d=l.length→Ev (fun k=>laws_pSameInts.l0 k l l l.length i) true:=by
  intro d
  induction d with
  | zero=>
   intro i hd
   refine ev_shift ?_
   simp only [laws_pSameInts.l0,if_neg (show ¬ (i:Int) < (l.length:Int) by omega)]
   exact Ev.now _
  | succ d ih=>
   intro i hd
   refine ev_shift ?_
   simp only [laws_pSameInts.l0,if_pos (show (i:Int) < (l.length:Int) by omega),if_pos (show (0:Int)≤(i:Int) by omega),if_true,w64 (show -9223372036854775808≤(i:Int)+1 by omega) (by omega)]
   exact ih (i+1) (by omega)
 unfold laws_pSameInts.f
 simp only [if_true]
 exact loop l.length 0 (by omega)
theorem pHas_ev (l:List Int) (x:Int) (hl:l.length≤1000000):Ev (fun k=>laws_pHas.f k l x) (decide (x∈l)):=by
 have loop:∀ (d i:Nat),i+d=l.length→Ev (fun k=>laws_pHas.l0 k x l l.length i) (decide (x∈l.drop i)):=by
  intro d
  induction d with
  | zero=>
   intro i hd
   refine ev_shift ?_
   rw [List.drop_of_length_le (by omega)]
   simp only [laws_pHas.l0,if_neg (show ¬ (i:Int) < (l.length:Int) by omega)]
   exact Ev.now _
  | succ d ih=>
   intro i hd
   have i1:=ih (i+1) (by omega)
   refine ev_shift ?_
   rw [drop_cons l i (by omega)]
   simp only [laws_pHas.l0,if_pos (show (i:Int) < (l.length:Int) by omega),if_pos (show (0:Int)≤(i:Int) by omega),w64 (show -9223372036854775808≤(i:Int)+1 by omega) (by omega)]
   by_cases c:rd l (i:Int)=x
   ·simp only [if_pos c,decide_eq_true (show x∈rd l (i:Int) :: l.drop (i+1) by rw [c];exact List.mem_cons_self ..)]
    exact Ev.now _
   ·simp only [if_neg c]
    have:decide (x∈rd l (i:Int) :: l.drop (i+1))=decide (x∈l.drop (i+1)):=by rw [decide_eq_decide,List.mem_cons];exact ⟨fun h=>h.resolve_left (fun e=>c e.symm),.inr⟩
    rw [this]
    exact i1
 have h:=loop l.length 0 (by omega)
 rw [List.drop_zero] at h
 exact h
theorem nstep_same (ss:List St) (U:List Bool) (x:Nat):nstep ss U x=impl_Plan_used.step 1 ss U x:=by
 unfold nstep impl_NeededPart.step impl_Plan_used.step
 rw [Int.add_comm (x:Int) 1]
def outOf (xs:List Int):List Int:=[(xs.length:Int) - 1]
theorem marks_same (xs:List Int) (h1:1≤xs.length) (hL:(stepsOf xs).length=xs.length - 1):marksAt xs (stepsOf xs).length=marksOf 1 (stepsOf xs) (outOf xs):=by
 unfold marksAt marksOf
 rw [show nstep (stepsOf xs)=impl_Plan_used.step 1 (stepsOf xs) from funext fun U=>funext fun x=>nstep_same (stepsOf xs) U x]
 have e:impl_NeededPart.start xs.length=impl_Plan_used.marks (outOf xs) (List.replicate (1+(stepsOf xs).length) false):=by
  unfold impl_NeededPart.start impl_Plan_used.marks outOf
  rw [hL,show 1+(xs.length - 1)=xs.length by omega]
  show _=(List.replicate xs.length false).set ((xs.length:Int) - 1).toNat true
  rw [show ((xs.length:Int) - 1).toNat=xs.length - 1 by omega]
 rw [e]
 exact down_back 1 (stepsOf xs) _ _
theorem outOf_in (xs:List Int) (h1:1≤xs.length) (hL:(stepsOf xs).length=xs.length - 1):∀ x∈outOf xs,0≤x∧x < ((1:Nat):Int)+(stepsOf xs).length:=fun x hx=>by
 unfold outOf at hx
 rw [List.mem_singleton.1 hx]
 omega
theorem zero_bit (ss:List St) (os:List Int) (ho:InOrder 1 ss) (hos:∀ x∈os,0≤x∧x < ((1:Nat):Int)+ss.length):∀ (n v:Nat),v≤n→v < 1+ss.length→bitAt (marksOf 1 ss os) v=true→bitAt (marksOf 1 ss os) 0=true:=by
 intro n
 induction n with
 | zero=>
  intro v h1 _ hb
  obtain rfl:v=0:=by omega
  exact hb
 | succ n ih=>
  intro v h1 h2 hb
  by_cases c:v=0
  ·subst c;exact hb
  ·obtain ⟨f1,f2,f3⟩:=marks_facts 1 ss os ho hos
   obtain ⟨k1,k2,k3⟩:=ho (v - 1) (by omega)
   have k3' : (rdS ss (v - 1:Nat)).f1 < ((1:Nat):Int)+(v - 1:Nat):=k3
   have k2' : (rdS ss (v - 1:Nat)).f0≤(rdS ss (v - 1:Nat)).f1:=k2
   have b:=f2 (v - 1) (by omega) (by rw [show 1+(v - 1)=v by omega];exact hb) (rdS ss (v - 1:Nat)).f0.toNat (.inl (Int.toNat_of_nonneg k1))
   exact ih _ (by omega) (by omega) b
theorem upto_facts (xs:List Int) (hx:∀ a b:Nat,a < b→b < xs.length→rd xs (a:Int) < rd xs (b:Int)) (m:List Bool):∀ k,k≤xs.length→(impl_NeededPart.upto xs m k).Pairwise (· < ·)∧∀ y,y∈impl_NeededPart.upto xs m k↔∃ i:Nat,i < k∧rdOf false m (i:Int)=true∧y=rd xs (i:Int)
 | 0,_=>⟨List.Pairwise.nil,fun y=>⟨fun h=>(by cases h),fun ⟨i,h,_⟩=>absurd h (Nat.not_lt_zero _)⟩⟩
 | k+1,hk=>by
  obtain ⟨a,b⟩:=upto_facts xs hx m k (by omega)
  rw [impl_NeededPart.upto_succ]
  by_cases c:rdOf false m (k:Int)=true
  ·rw [if_pos c]
   refine ⟨List.pairwise_append.2 ⟨a,List.pairwise_singleton _ _,fun y hy z hz=>?_⟩,fun y=>?_⟩
   ·obtain ⟨i,hi,_,rfl⟩:=(b y).1 hy
    rw [List.mem_singleton.1 hz]
    exact hx i k hi (by omega)
   ·rw [List.mem_append,b,List.mem_singleton]
    constructor
    ·rintro (⟨i,hi,h1,h2⟩|h)
     ·exact ⟨i,by omega,h1,h2⟩
     ·exact ⟨k,by omega,c,h⟩
    ·rintro ⟨i,hi,h1,h2⟩
     by_cases e:i=k
     ·subst e;exact .inr h2
     ·exact .inl ⟨i,by omega,h1,h2⟩
  ·rw [if_neg c,List.append_nil]
   refine ⟨a,fun y=>?_⟩
   rw [b]
   constructor
   ·rintro ⟨i,hi,h1,h2⟩
    exact ⟨i,by omega,h1,h2⟩
   ·rintro ⟨i,hi,h1,h2⟩
    by_cases e:i=k
    ·subst e;exact absurd h1 c
    ·exact ⟨i,by omega,h1,h2⟩
def part (xs:List Int):List Int:=impl_NeededPart.upto xs (marksAt xs (stepsOf xs).length) xs.length
theorem rdL_exps (xs:List Int) (c:chain xs=true) (v:Nat) (hv:v < xs.length):rd_L3 (exps 1 (stepsOf xs)) (v:Int)=[rd xs (v:Int)]:=by
 rw [chain_exps xs c,rd_ne xs v hv]
 unfold rd_L3
 rw [Int.toNat_natCast]
 simp [List.getD,hv]
theorem part_facts (xs:List Int) (c:chain xs=true):InOrder 1 (tSteps 1 (stepsOf xs) (outOf xs))∧(∀ x∈tOuts 1 (stepsOf xs) (outOf xs),0≤x∧x < ((1:Nat):Int)+(tSteps 1 (stepsOf xs) (outOf xs)).length)∧(tSteps 1 (stepsOf xs) (outOf xs)).length≤40 ∧
  planOk 1 (tSteps 1 (stepsOf xs) (outOf xs)) (tOuts 1 (stepsOf xs) (outOf xs))=true∧inc (es (tSteps 1 (stepsOf xs) (outOf xs)))=part xs∧chain (part xs)=true∧(∃ l,part xs=l++[rd xs ((xs.length:Int) - 1)])∧∀ y∈part xs,y∈xs:=by
 obtain ⟨h1,h41,h0,h4⟩:=chain_from xs c
 have hL:(stepsOf xs).length=xs.length - 1:=by unfold stepsOf;rw [stepsFrom_length]
 have ho:=chain_order xs c
 have hos:=outOf_in xs h1 hL
 have hT:=trim_order 1 (stepsOf xs) (outOf xs) ho hos
 have hO:=trim_outs 1 (stepsOf xs) (outOf xs) ho hos
 have hTl:=tSteps_length 1 (stepsOf xs) (outOf xs)
 have hb:∀ r∈exps 1 (stepsOf xs),∀ e∈r,0≤e∧e≤1000000:=fun r hr e he=>by
  rw [chain_exps xs c] at hr
  obtain ⟨y,hy,rfl⟩:=List.mem_map.1 hr
  obtain ⟨j,hj,rfl⟩:=List.mem_iff_getElem.1 hy
  have:=chain_le xs c j hj
  rw [rd_ne xs j hj] at this
  rw [List.mem_singleton.1 he]
  omega
 have hok:=trim_ok 1 (stepsOf xs) (outOf xs) (by omega) (by omega) (by omega) (by unfold outOf;simp) ho hos hb
 have hst:=from_strict xs (xs.length - 1) 1 (by omega) h4
 have hx:∀ a b:Nat,a < b→b < xs.length→rd xs (a:Int) < rd xs (b:Int):=fun a b hab hb=>hst a b (by omega) hab (by omega)
 have hm:=marks_same xs h1 hL
 obtain ⟨f1,f2,f3⟩:=marks_facts 1 (stepsOf xs) (outOf xs) ho hos
 have hlast:bitAt (marksOf 1 (stepsOf xs) (outOf xs)) (xs.length - 1)=true:=f1 (xs.length - 1) (by unfold outOf;rw [List.mem_singleton];omega)
 have hzero:=zero_bit (stepsOf xs) (outOf xs) ho hos (xs.length - 1) (xs.length - 1) (Nat.le_refl _) (by omega) hlast
 have hbr:∀ i:Nat,rdOf false (marksAt xs (stepsOf xs).length) (i:Int)=bitAt (marksOf 1 (stepsOf xs) (outOf xs)) i:=fun i=>by rw [hm];unfold rdOf bitAt;rw [Int.toNat_natCast]
 obtain ⟨p1,p2⟩:=upto_facts xs hx (marksAt xs (stepsOf xs).length) xs.length (Nat.le_refl _)
 have hlT:(exps 1 (tSteps 1 (stepsOf xs) (outOf xs))).length=1+(tSteps 1 (stepsOf xs) (outOf xs)).length:=eTo_length _ _ _
 have key:inc (es (tSteps 1 (stepsOf xs) (outOf xs)))=part xs:=by
  obtain ⟨q1,q2⟩:=inc_fact (es (tSteps 1 (stepsOf xs) (outOf xs)))
  refine strict_eq _ _ q1 p1 (fun y=>?_)
  rw [show (y∈inc (es (tSteps 1 (stepsOf xs) (outOf xs))))=(y∈Go.Lib.compact ((es (tSteps 1 (stepsOf xs) (outOf xs))).mergeSort fun x y=>decide (x≤y))) from rfl,q2,mem_es _ hT,show (y∈part xs)=(y∈impl_NeededPart.upto xs (marksAt xs (stepsOf xs).length) xs.length) from rfl,p2]
  constructor
  ·intro hy
   obtain ⟨j,hj,ej⟩:=List.mem_iff_getElem.1 hy
   have er:rd_L3 (exps 1 (tSteps 1 (stepsOf xs) (outOf xs))) (j:Int)=[y]:=by rw [← ej];unfold rd_L3;rw [Int.toNat_natCast];simp [List.getD,hj]
   by_cases c0:j=0
   ·subst c0
    have h:=trim_exp 1 (stepsOf xs) (outOf xs) ho hos ((0:Nat):Int) (by omega) (by omega) (.inl (by omega))
    have en:num (marksOf 1 (stepsOf xs) (outOf xs)) 1 ((0:Nat):Int)=((0:Nat):Int):=by unfold num;rw [if_pos (by omega)]
    rw [en,er,rdL_exps xs c 0 (by omega)] at h
    exact ⟨0,by omega,by rw [hbr];exact hzero,by injection h⟩
   ·obtain ⟨i,hi,hbi,e⟩:=pick_inv (marksOf 1 (stepsOf xs) (outOf xs)) 1 (stepsOf xs).length (j - 1) (by rw [← tSteps_len];omega)
    have h:=trim_exp 1 (stepsOf xs) (outOf xs) ho hos ((1+i:Nat):Int) (by omega) (by omega) (.inr (by rw [Int.toNat_natCast];exact hbi))
    have en:num (marksOf 1 (stepsOf xs) (outOf xs)) 1 ((1+i:Nat):Int)=j:=by
     unfold num
     rw [if_neg (by omega),show (((1+i:Nat):Int) - ((1:Nat):Int)).toNat=i by omega,e]
     omega
    rw [en,er,rdL_exps xs c (1+i) (by omega)] at h
    exact ⟨1+i,by omega,by rw [hbr];exact hbi,by injection h⟩
  ·rintro ⟨i,hi,hbi,rfl⟩
   rw [hbr] at hbi
   have h:=trim_exp 1 (stepsOf xs) (outOf xs) ho hos (i:Int) (by omega) (by omega) (.inr (by rw [Int.toNat_natCast];exact hbi))
   have hn:=num_lt (marksOf 1 (stepsOf xs) (outOf xs)) 1 (stepsOf xs).length (i:Int) (by omega) (by omega) (.inr (by rw [Int.toNat_natCast];exact hbi))
   rw [rdL_exps xs c i hi] at h
   rw [← h]
   exact rd_mem _ _ hn.1 (by rw [hlT,tSteps_len];omega)
 have hch:chain (part xs)=true:=by
  rw [← key]
  exact inc_chain _ hT (by omega) (fun r hr=>hb r (trim_sub 1 (stepsOf xs) (outOf xs) ho hos r hr))
 refine ⟨hT,hO,by omega,hok,key,hch,?_,fun y hy=>?_⟩
 ·obtain ⟨n,hn⟩ : ∃ n,xs.length=n+1:=⟨xs.length - 1,by omega⟩
  refine ⟨impl_NeededPart.upto xs (marksAt xs (stepsOf xs).length) n,?_⟩
  unfold part
  rw [hn,impl_NeededPart.upto_succ,if_pos (by rw [hbr];rw [hn,Nat.add_sub_cancel] at hlast;exact hlast),show ((n+1:Nat):Int) - 1=(n:Int) by omega]
 ·obtain ⟨i,hi,_,rfl⟩:=(p2 y).1 hy
  rw [rd_ne xs i hi]
  exact List.getElem_mem _
theorem chPlan_ev (xs:List Int) (c:chain xs=true):Ev (fun k=>impl_ChainPlan.f k xs) (1,stepsOf xs,outOf xs,true):=by
 have hf:=chain_from xs c
 have hok:=chain_planOk xs c (outOf xs) (by unfold outOf;simp) (fun j hj=>by
  obtain rfl:j=0:=by unfold outOf at hj;simpa using hj
  show 0≤(xs.length:Int) - 1∧(xs.length:Int) - 1≤(xs.length:Int) - 1
  omega)
 unfold impl_ChainPlan.f impl_chainPlan.f
 refine ev_bind (isChain_ev xs (by omega)) ?_
 simp only [c,if_true,Option.bind_assoc,Option.bind_some,w64 (show -9223372036854775808≤(xs.length:Int) - 1 by omega) (by omega)]
 refine ev_bind (chainSteps_ev xs c) ?_
 unfold impl_told.f
 simp only [Option.bind_assoc]
 refine ev_bind (isPlan_ev 1 (stepsOf xs) (outOf xs)) ?_
 simp only [hok,if_true]
 exact Ev.now _
theorem trimPlan_ev (xs:List Int) (c:chain xs=true):Ev (fun k=>impl_TrimPlan.f k 1 (stepsOf xs) (outOf xs)) (1,tSteps 1 (stepsOf xs) (outOf xs),tOuts 1 (stepsOf xs) (outOf xs),true):=by
 have hf:=chain_from xs c
 have hL:(stepsOf xs).length=xs.length - 1:=by unfold stepsOf;rw [stepsFrom_length]
 have hj:∀ j:Nat,j < (outOf xs).length→0≤rd (outOf xs) j∧rd (outOf xs) j≤(xs.length:Int) - 1:=fun j hj=>by
  obtain rfl:j=0:=by unfold outOf at hj;simpa using hj
  show 0≤(xs.length:Int) - 1∧(xs.length:Int) - 1≤(xs.length:Int) - 1
  omega
 have hok:=chain_planOk xs c (outOf xs) (by unfold outOf;simp) hj
 unfold impl_TrimPlan.f
 refine ev_bind (isPlan_ev 1 (stepsOf xs) (outOf xs)) ?_
 simp only [hok,if_true]
 exact ev_bind (trimmed_ev 1 (stepsOf xs) (outOf xs) (by omega) (by omega) (by omega) (by unfold outOf;simp) (chain_order xs c) (fun j h=>by have:=hj j h;omega)) (Ev.now _)
theorem insAns_grows (xs:List Int) (n:Int) (h:(insAns xs n).2=true):(insAns xs n).1.length=xs.length+1∧n∈(insAns xs n).1:=by
 unfold insAns at h ⊢
 by_cases c:chain xs=true∧(1≤n∧n≤1000000)∧has xs n=false
 ·rw [if_pos c] at h ⊢
  unfold ifChain at h ⊢
  by_cases d:chain (put xs n)=true
  ·rw [if_pos d]
   obtain ⟨a,b⟩:=put_fact xs n (chain_strict xs c.1)
   refine ⟨?_,(b n).2 (.inr rfl)⟩
   have hn:n ∉ xs:=fun hm=>by have:=c.2.2;rw [has_mem,decide_eq_true hm] at this;cases this
   show (put xs n).length=_
   unfold put putAt
   have hle:=place_le xs n xs.length 0
   rw [if_neg]
   ·rw [List.length_append,List.length_cons,List.length_take,List.length_drop]
    omega
   ·rintro ⟨h1,h2⟩
    exact hn (by rw [← h2,rd_ne xs _ h1];exact List.getElem_mem _)
  ·rw [if_neg d] at h;cases h
 ·rw [if_neg c] at h;cases h
theorem drawIns_ev {code:List Int} (hc:∀ x∈code,0≤x∧x≤255) : ∃ (xs:List Int) (n:Int),xs.length≤1000∧Ev (fun k=>spec_DrawInsertNumber.f k code) (xs,n):=by
 obtain ⟨xs,a,s,x1,x2,x3,x4⟩:=drawAny_ev 0 (by omega) (by omega) hc 0 0 8 (by omega) (by omega) (by omega) (by omega)
 have jf:∀ (q t:Int),0≤q→q≤2000000→∃ n:Int,Ev (fun k=>spec_DrawInsertNumber.j0 k xs false code q t) (xs,n):=fun q t g0 g1=>by
  obtain ⟨x,q3,t3,e3,s1,s2⟩:=number_ok hc q t g0 (by omega)
  refine ⟨x,ev_shift ?_⟩
  simp only [spec_DrawInsertNumber.j0,Bool.false_eq_true,if_false,e3,Option.bind_some]
  exact Ev.now _
 by_cases cx:(xs.length:Int) > 0
 ·obtain ⟨b,q,t,e,q1,q2⟩:=one_ok hc a s 2 x2 (by omega)
  cases b with
  | true=>
   obtain ⟨i,q3,t3,e3,i0,i1,_,_⟩:=pick_ok hc q t xs.length (by omega) (by omega)
   obtain ⟨j,q4,t4,e4,j0,j1,_,_⟩:=pick_ok hc q3 t3 xs.length (by omega) (by omega)
   refine ⟨xs,wrap64 (rd xs i+rd xs j),x1,?_⟩
   unfold spec_DrawInsertNumber.f
   refine ev_bind x4 ?_
   simp only [if_pos cx,e,Option.bind_some]
   refine ev_shift ?_
   simp only [spec_DrawInsertNumber.j0,if_true,e3,Option.bind_some,if_pos i0,if_pos (show i < (xs.length:Int) by omega),e4,if_pos j0,if_pos (show j < (xs.length:Int) by omega)]
   exact Ev.now _
  | false=>
   obtain ⟨n,hn⟩:=jf q t (by omega) (by omega)
   refine ⟨xs,n,x1,?_⟩
   unfold spec_DrawInsertNumber.f
   refine ev_bind x4 ?_
   simp only [if_pos cx,e,Option.bind_some]
   exact hn
 ·obtain ⟨n,hn⟩:=jf a s (by omega) (by omega)
  refine ⟨xs,n,x1,?_⟩
  unfold spec_DrawInsertNumber.f
  refine ev_bind x4 ?_
  simp only [if_neg cx]
  exact hn
theorem j2_ok {more:List Int} (hc:∀ x∈more,0≤x∧x≤255):Ev (fun k=>laws_FnNeededParts.j2 k more false) true:=by
 obtain ⟨xs,n,x1,hd⟩:=drawIns_ev hc
 have sh:=insAns_short xs n
 refine ev_shift ?_
 simp only [laws_FnNeededParts.j2,Bool.false_eq_true,if_false]
 refine ev_bind hd ?_
 refine ev_bind (insImpl_ev xs n (by omega)) ?_
 refine ev_bind (insSpec_ev xs n (by omega)) ?_
 simp only [beq_self_eq_true,if_true]
 refine ev_bind (sameInts_ev _ sh) ?_
 simp only [if_true]
 by_cases c:(insAns xs n).2=true
 ·obtain ⟨g1,g2⟩:=insAns_grows xs n c
  simp only [if_pos c,if_pos (show ((insAns xs n).1.length:Int)=wrap64 ((xs.length:Int)+1) by rw [w64 (by omega) (by omega),g1];omega)]
  have:=pHas_ev (insAns xs n).1 n sh
  rw [decide_eq_true g2] at this
  exact ev_bind this (Ev.now _)
 ·simp only [if_neg c]
  exact Ev.now _
theorem FnNeededParts:laws_FnNeededParts.Pure:=by
 intro code more _ _ hcode _ _ hmore
 have hc:∀ x∈code,0≤x∧x≤255:=fun x hx=>u8_of (hcode x hx)
 have hcm:∀ x∈more,0≤x∧x≤255:=fun x hx=>u8_of (hmore x hx)
 refine Ev.rounds (r:=true) ?_
 obtain ⟨g,hg⟩ : ∃ g,laws_big.f code more=some g:=by unfold laws_big.f;split <;> exact ⟨_,rfl⟩
 have e0:∀ q:Bool,(q != q)=false:=fun q=>by cases q <;> rfl
 unfold laws_FnNeededParts.f
 simp only [hg,Option.bind_some]
 cases g with
 | true=>simp only [if_true];exact Ev.now _
 | false=>
  obtain ⟨xs,a,s,x1,x2,x3,x4⟩:=drawAny_ev 0 (by omega) (by omega) hc 0 0 9 (by omega) (by omega) (by omega) (by omega)
  have sh:=needAns_short xs
  simp only [Bool.false_eq_true,if_false]
  refine ev_bind (show Ev (fun k=>spec_DrawNeededPart.f k code) xs by unfold spec_DrawNeededPart.f;exact ev_bind x4 (Ev.now _)) ?_
  refine ev_bind (needImpl_ev xs (by omega)) ?_
  refine ev_bind (needSpec_ev xs (by omega)) ?_
  simp only [e0,Bool.false_eq_true,if_false]
  refine ev_bind (sameInts_ev _ sh) ?_
  refine ev_shift ?_
  simp only [laws_FnNeededParts.j0,Bool.not_true,Bool.false_eq_true,if_false]
  by_cases c:chain xs=true
  ·have ea:needAns xs=(part xs,true):=by unfold needAns;rw [if_pos c];rfl
   obtain ⟨hT,hO,hTl,hok,key,hch,⟨l,hl⟩,hsub⟩:=part_facts xs c
   have hp41:=chain_from _ hch
   have hx41:=chain_from _ c
   rw [ea]
   simp only [if_true]
   have hcp:=chPlan_ev xs c
   have htp:=trimPlan_ev xs c
   have hcop:=copImpl_ev 1 (tSteps 1 (stepsOf xs) (outOf xs)) (tOuts 1 (stepsOf xs) (outOf xs))
   have eco:copAns 1 (tSteps 1 (stepsOf xs) (outOf xs)) (tOuts 1 (stepsOf xs) (outOf xs))=(part xs,true):=by
    unfold copAns
    rw [if_pos ⟨hok,rfl⟩,key]
   rw [eco] at hcop
   have hend:rd (part xs) (((part xs).length:Int) - 1)=rd xs ((xs.length:Int) - 1):=by
    rw [hl,List.length_append,List.length_singleton,show ((l.length+1:Nat):Int) - 1=(l.length:Int) by omega,rd_nat]
    simp [List.getD]
   generalize part xs=p at *
   generalize tSteps 1 (stepsOf xs) (outOf xs)=T at *
   generalize tOuts 1 (stepsOf xs) (outOf xs)=TO at *
   have loop:∀ (d i:Nat),i+d=p.length→Ev (fun k=>laws_FnNeededParts.l0 k more xs p p p.length i) true:=by
    intro d
    induction d with
    | zero=>
     intro i hd
     refine ev_shift ?_
     simp only [laws_FnNeededParts.l0,if_neg (show ¬ (i:Int) < (p.length:Int) by omega)]
     refine ev_bind hcp ?_
     refine ev_bind htp ?_
     refine ev_bind hcop ?_
     simp only [if_true]
     refine ev_bind (sameInts_ev p (by omega)) ?_
     simp only [if_true]
     refine ev_bind (isChain_ev p (by omega)) ?_
     simp only [hch,if_true,w64 (show -9223372036854775808≤(p.length:Int) - 1 by omega) (by omega),w64 (show -9223372036854775808≤(xs.length:Int) - 1 by omega) (by omega),if_pos (show (0:Int)≤(p.length:Int) - 1 by omega),if_pos (show (p.length:Int) - 1 < (p.length:Int) by omega),if_pos (show (0:Int)≤(xs.length:Int) - 1 by omega),if_pos (show (xs.length:Int) - 1 < (xs.length:Int) by omega),hend,bne_self_eq_false]
     exact j2_ok hcm
    | succ d ih=>
     intro i hd
     have hv:rd p (i:Int)∈xs:=hsub _ (by rw [rd_ne p i (by omega)];exact List.getElem_mem _)
     refine ev_shift ?_
     simp only [laws_FnNeededParts.l0,if_pos (show (i:Int) < (p.length:Int) by omega),if_pos (show (0:Int)≤(i:Int) by omega),w64 (show -9223372036854775808≤(i:Int)+1 by omega) (by omega)]
     refine ev_bind (pHas_ev xs _ (by omega)) ?_
     simp only [decide_eq_true hv,if_true]
     exact ih (i+1) (by omega)
   exact loop p.length 0 (by omega)
  ·have ea:needAns xs=([],false):=by unfold needAns;rw [if_neg c]
   rw [ea]
   simp only [Bool.false_eq_true,if_false]
   exact Ev.now _
end Go.Proofs.Ytlefjgpkabijdaa.Pure
--sq
