/- Used by the law FnExactBankPut. -/
import Derived.Test.YtbpjidekjogfeaaZFnExactBankPutx25
namespace Go.Proofs.Ytbpjidekjogfeaa.A
open Go.RowKit Go.Proofs.YtbpjidekjogfeaaW.cv Go.Proofs.YtbpjidekjogfeaaW.dr Go.Proofs.YtbpjidekjogfeaaW.dN
set_option linter.unusedVariables false
set_option linter.unusedSimpArgs false
def Ev{α:Type}(F:Nat→Option α)(r:α):Prop:= ∃K,∀k,K≤k→F k=some r
theorem Ev.mk{α:Type}{F:Nat→Option α}{r:α}(K:Nat)(h: ∀k,K<k→F k=some r):Ev F r:=⟨K+1,fun k hk=>h k hk⟩
theorem Ev.get{α:Type}{F:Nat→Option α}{r:α}(h:Ev F r): ∃k,F k=some r:=by
 obtain⟨K,h⟩:=h;exact⟨K,h K (Nat.le_refl _)⟩
theorem Ev.const{α:Type}{o:Option α}{r:α}(h:o=some r):Ev (fun _=>o) r:=⟨0,fun _ _=>h⟩
theorem Ev.ret{α:Type}(r:α):Ev (fun _=>some r) r:=⟨0,fun _ _=>rfl⟩
theorem Ev.bind{α β:Type}{F:Nat→Option α}{G:Nat→α→Option β}{a:α}{b:β}(h1:Ev F a)(h2:Ev (fun k=>G k a) b):Ev (fun k=>(F k).bind (G k)) b:=by
 obtain⟨K1,h1⟩:=h1;obtain⟨K2,h2⟩:=h2;refine⟨max K1 K2,fun k hk=>?_⟩;show(F k).bind (G k)=some b;rw[h1 k (by omega)];exact h2 k (by omega)
theorem Ev.pos{α:Type}{c:Prop}[Decidable c]{A B:Nat→Option α}{r:α}(h:c)(hA:Ev A r):Ev (fun k=>if c then A k else B k) r:=by
 obtain⟨K,hA⟩:=hA;exact⟨K,fun k hk=>by show(if c then A k else B k)=some r;rw[if_pos h];exact hA k hk⟩
theorem Ev.neg{α:Type}{c:Prop}[Decidable c]{A B:Nat→Option α}{r:α}(h: ¬c)(hB:Ev B r):Ev (fun k=>if c then A k else B k) r:=by
 obtain⟨K,hB⟩:=hB;exact⟨K,fun k hk=>by show(if c then A k else B k)=some r;rw[if_neg h];exact hB k hk⟩
theorem Ev.ite{α:Type}{c:Prop}[Decidable c]{A B:Nat→Option α}{a b:α}(hA:c→Ev A a)(hB: ¬c→Ev B b):Ev (fun k=>if c then A k else B k) (if c then a else b):=by
 by_cases h:c
 ·rw[if_pos h];exact Ev.pos h (hA h)
 ·rw[if_neg h];exact Ev.neg h (hB h)
theorem Ev.succ{α:Type}{F:Nat→Option α}{r:α}(h:Ev (fun k=>F (k+1)) r):Ev F r:=by
 obtain⟨K,h⟩:=h;refine⟨K+1,fun k hk=>?_⟩;obtain⟨m,rfl⟩: ∃m,k=m+1:=⟨k-1,by omega⟩;exact h m (by omega)
theorem Ev.of_eq{α:Type}{F G:Nat→Option α}{r:α}(h:Ev F r)(e: ∀k,G k=F k):Ev G r:=by
 obtain⟨K,h⟩:=h;exact⟨K,fun k hk=>(e k).trans (h k hk)⟩
theorem Ev.to{α:Type}{F:Nat→Option α}{r s:α}(h:Ev F r)(e:r=s):Ev F s:=e▸h
theorem Ev.uniq{α:Type}{F:Nat→Option α}{r s:α}(h:Ev F r)(g:Ev F s):r=s:=by
 obtain⟨K1,h⟩:=h;obtain⟨K2,g⟩:=g;exact Option.some.inj ((h (max K1 K2) (by omega)).symm.trans (g (max K1 K2) (by omega)))
theorem m6{α:Type}{l:List α}{i:Nat}(d:α)(h:i<l.length):l.getD i d=l[i]:=by
 rw[List.getD_eq_getElem?_getD,List.getElem?_eq_getElem h];rfl
theorem eY(i:Nat)(h:i<9223372036854775807):wrap64 ((i:Int)+1)=((i+1:Nat):Int):=by unfold wrap64;omega
theorem VU(i:Nat)(h:0<i)(h2:i≤9223372036854775807):wrap64 ((i:Int)-1)=((i-1:Nat):Int):=by unfold wrap64;omega
theorem wid(x:Int)(h: -9223372036854775808≤x)(h2:x≤9223372036854775807):wrap64 x=x:=by unfold wrap64;omega
theorem Yo{L:Nat→Int→Option Bool}{n:Nat}{P:Nat→Bool}(h: ∀k i,i<n→L (k+1) (i:Int)=if P i=true then L k ((i+1:Nat):Int)else some false)
  (he: ∀k,L (k+1) (n:Int)=some true) (d:Nat): ∀k i,i+d=n→d<k→L k (i:Int)=some ((List.range' i d).all P):=by
 induction d with
 |zero=>
  intro k i hi hk;obtain⟨k,rfl⟩: ∃m,k=m+1:=⟨k-1,by omega⟩;(obtain rfl:i=n:=by omega);rw[he];rfl
 |succ d ih=>
  intro k i hi hk;obtain⟨k,rfl⟩: ∃m,k=m+1:=⟨k-1,by omega⟩;rw[h k i (by omega),List.range'_succ,List.all_cons];by_cases hp:P i=true
  ·rw[if_pos hp,ih k (i+1) (by omega) (by omega),hp,Bool.true_and]
  ·rw[if_neg hp];(have:P i=false:=by simpa using hp);rw[this,Bool.false_and]
theorem adJ{α β:Type}{L:Nat→List β→Int→Option (List β)}{xs:List α}{g:α→β}(d0:α)
  (h: ∀k acc (i:Nat),i<xs.length→acc.length=xs.length→L (k+1) acc (i:Int)=L k (acc.set i (g (xs.getD i d0))) ((i+1:Nat):Int))
  (he: ∀k acc,L (k+1) acc (xs.length:Int)=some acc) (d:Nat):
  ∀k acc i,i+d=xs.length→d<k→acc.length=xs.length→(∀j,j<i→acc[j]? =(xs.map g)[j]?)→L k acc (i:Int)=some (xs.map g):=by
 induction d with
 |zero=>
  intro k acc i hi hk hl hp;obtain⟨k,rfl⟩: ∃m,k=m+1:=⟨k-1,by omega⟩;(obtain rfl:i=xs.length:=by omega);rw[he]
  congr 1
  apply List.ext_getElem?;intro j;by_cases hj:j<xs.length
  ·exact hp j hj
  ·rw[List.getElem?_eq_none (by omega),List.getElem?_eq_none (by simp;omega)]
 |succ d ih=>
  intro k acc i hi hk hl hp;obtain⟨k,rfl⟩: ∃m,k=m+1:=⟨k-1,by omega⟩;rw[h k acc i (by omega) hl];refine ih k _ (i+1) (by omega) (by omega) (by simp[hl]) (fun j hj=>?_);by_cases e:i=j
  ·subst e;rw[List.getElem?_set_self (by omega),List.getElem?_map,List.getElem?_eq_getElem (show i<xs.length by omega),List.getD_eq_getElem?_getD,List.getElem?_eq_getElem (show i<xs.length by omega)];rfl
  ·rw[List.getElem?_set_ne e];exact hp j (by omega)
theorem Jn(a b c:Int):fq.f a b c=some (decide (b≤a∧a≤c)):=by
 unfold fq.f;split
 ·congr 1;rw[decide_eq_decide];omega
 ·congr 1;exact(decide_eq_false (by omega)).symm
def kE:List aj→Int→List Int→Option Int
 | [],low,_=>some low
 |b::bs,low,ps=>if b.f0=low∧(1≤b.f1∧b.f1≤24)∧(0≤b.f2∧b.f2≤999)∧ ¬(0<b.f2∧b.f2 ∈ ps)∧low+b.f1≤24 then kE bs (low+b.f1) (b.f2::ps)else none
def qb(h:Int)(bx:List aj)(o:Option Int):Bool:=match o with|none=>false|some low=>decide (bx≠ [])&& decide (low=h)
theorem ajd(h:Int)(fx:List Int)(bx:List aj)(at_:Int)(i:Nat)(hi:i<bx.length)(hi2:i≤24)(b:aj)(P:Prop)[Decidable P](hP:P↔(0<b.f2∧ ∃j,j<i∧(bx.getD j eE).f2=b.f2))(d:Nat):
  ∀(k j:Nat),j+d=i→d<k→(∀m,m<j→0<b.f2→(bx.getD m eE).f2≠b.f2)→fH.l1 k at_ (i:Int) (j:Int) h fx bx b.f0 b.f1 b.f2 b.f3=if P then some false else(if(wrap64 (at_+b.f1))>24 then(some false)else(fH.l0 (k-d-1) (wrap64 (at_+b.f1)) ((i+1:Nat):Int) h fx bx)):=by
 induction d with
 |zero=>
  intro k j hj hk hn;obtain⟨k,rfl⟩: ∃m,k=m+1:=⟨k-1,by omega⟩;simp only[fH.l1];(have hnp: ¬P:=fun hp=>by obtain⟨h0,m,hm,e⟩:=hP.mp hp;exact hn m (by omega) h0 e);rw[if_neg (by omega),if_neg hnp,eY i (by omega)];rfl
 |succ d ih=>
  intro k j hj hk hn;obtain⟨k,rfl⟩: ∃m,k=m+1:=⟨k-1,by omega⟩;simp only[fH.l1];have er:ah bx (j:Int)=bx.getD j eE:=rfl;rw[if_pos (by omega),er,eY j (by omega)];by_cases c0:b.f2>0
  ·rw[if_pos c0,if_pos (by omega),if_pos (by omega)];by_cases c1:(bx.getD j eE).f2=b.f2
   ·rw[if_pos c1,if_pos (hP.mpr ⟨c0,j,by omega,c1⟩)]
   ·rw[if_neg c1,ih k (j+1) (by omega) (by omega) (fun m hm h0=>by
     by_cases e:m=j
     ·subst e;exact c1
     ·exact hn m (by omega) h0),show k+1-(d+1)-1=k-d-1 by omega]
  ·rw[if_neg c0,ih k (j+1) (by omega) (by omega) (fun m hm h0=>absurd h0 c0),show k+1-(d+1)-1=k-d-1 by omega]
theorem drop_cons{α:Type}(l:List α)(d:α)(i:Nat)(hi:i<l.length):l.drop i=l.getD i d::l.drop (i+1):=by
 rw[List.drop_eq_getElem_cons hi,m6 d hi]
theorem aje(h:Int)(fx:List Int)(bx:List aj)(hl:bx.length≤140737488351232): ∀(d k i:Nat) (at_:Int) (ps:List Int),(24-at_).toNat=d→0≤at_→at_≤24→(i:Int)≤at_→i≤bx.length→(d+2)*40<k→
  (∀x,x ∈ ps↔ ∃j,j<i∧(bx.getD j eE).f2=x)→fH.l0 k at_ (i:Int) h fx bx=some (qb h bx (kE (bx.drop i) at_ ps)):=by
 intro d;induction d using Nat.strongRecOn with
 |_ d ih=>
 intro k i at_ ps hd h0 h1 hi kn hk hps;obtain⟨k,rfl⟩: ∃m,k=m+2:=⟨k-2,by omega⟩;simp only[fH.l0];by_cases c:i<bx.length
 ·have er:ah bx (i:Int)=bx.getD i eE:=rfl;rw[if_pos (by omega),if_pos (by omega),drop_cons bx eE i c,er];simp only[Jn,Option.bind_some,kE];generalize hb:bx.getD i eE=b;by_cases c0:b.f0=at_
  ·rw[if_pos c0];by_cases c1:1≤b.f1∧b.f1≤24
   ·rw[if_pos (decide_eq_true c1)];by_cases c2:0≤b.f2∧b.f2≤999
    ·simp only[decide_eq_true c2,fH.j1,Bool.not_true];rw[if_neg (by simp)];have hin:=ajd h fx bx at_ i c (by omega) b (0<b.f2∧b.f2 ∈ ps) (by rw[hps]) i k 0 (by omega) (by omega) (fun m hm=>by omega);refine hin.trans ?_;by_cases c3:0<b.f2∧b.f2 ∈ ps
     ·rw[if_pos c3,if_neg (fun h=>h.2.2.2.1 c3)];rfl
     ·rw[if_neg c3,wid (at_+b.f1) (by omega) (by omega)];by_cases c4:at_+b.f1>24
      ·rw[if_pos c4,if_neg (fun h=>by have:=h.2.2.2.2;omega)];rfl
      ·rw[if_neg c4,if_pos ⟨c0,c1,c2,c3,by omega⟩];refine ih (24-(at_+b.f1)).toNat (by omega) _ (i+1) (at_+b.f1) (b.f2::ps) rfl (by omega) (by omega) (by omega) (by omega) (by omega) (fun x=>?_);rw[List.mem_cons,hps];constructor
       ·rintro(rfl|⟨j,hj,e⟩)
        ·exact⟨i,by omega,by rw[hb]⟩
        ·exact⟨j,by omega,e⟩
       ·rintro⟨j,hj,e⟩;by_cases ej:j=i
        ·subst ej;left;rw[←e,hb]
        ·right;exact⟨j,by omega,e⟩
    ·simp only[decide_eq_false c2,fH.j1,Bool.not_false];rw[if_pos trivial,if_neg (fun h=>c2 h.2.2.1)];rfl
   ·rw[if_neg (by simpa using c1)];simp only[fH.j1];rw[if_pos trivial,if_neg (fun h=>c1 h.2.1)];rfl
  ·rw[if_neg c0];simp only[fH.j1];rw[if_pos trivial,if_neg (fun h=>c0 h.1)];rfl
 ·rw[if_neg (by omega),List.drop_eq_nil_of_le (by omega)];simp only[kE,qb];by_cases c0:(bx.length:Int)>0
  ·(have hne:bx≠ []:=by intro e;rw[e]at c0;simp at c0);rw[if_pos c0,decide_eq_true hne,Bool.true_and]
   congr 1
  ·(have hne: ¬bx≠ []:=by intro e;exact e (List.length_eq_zero_iff.mp (by omega)));rw[if_neg c0,decide_eq_false hne,Bool.false_and]
theorem ajc(h:Int)(fx:List Int)(bx:List aj)(hl:bx.length≤140737488351232)(k:Nat)(hk:1100<k):fH.f k h fx bx=some (qb h bx (kE bx 0 [])):=by
 unfold fH.f;have:=aje h fx bx hl 24 k 0 0 [] (by omega) (by omega) (by omega) (by omega) (by omega) (by omega) (by simp);exact this
theorem P1: ∀(bs:List aj) (low:Int) (ps:List Int) (e:Int),kE bs low ps=some e→low≤e∧(bs.length:Int)≤e-low∧(low≤24→e≤24)
 | [],low,ps,e,h=>by simp[kE]at h;subst h;exact⟨by omega,by simp,id⟩
 |b::bs,low,ps,e,h=>by
  simp only[kE]at h;split at h
  ·next hc=>
   obtain⟨h1,h2,h3⟩:=P1 bs _ _ _ h;exact⟨by omega,by simp;omega,fun _=>h3 (by omega)⟩
  ·simp at h
theorem YJ(h:Int)(hh:h≤24): ∀(bs:List aj) (low:Int) (ls ps:List Int) (e:Int) (ls':List Int),0≤low→jw h bs low ls ps=some (e,ls')→kE bs low ps=some e∧ ∀f,f ∈ ls'↔f ∈ ls∨f ∈ bs.map (fun b=>b.f0)
 | [],low,ls,ps,e,ls',h0,hb=>by
  simp only[jw,Option.some.injEq,Prod.mk.injEq]at hb;obtain⟨rfl,rfl⟩:=hb;exact⟨rfl,fun f=>by simp⟩
 |b::bs,low,ls,ps,e,ls',h0,hb=>by
  simp only[jw]at hb;split at hb
  ·next hc=>
   obtain⟨h1,h2⟩:=YJ h hh bs _ _ _ _ _ (by omega) hb;refine⟨?_,fun f=>?_⟩
   ·simp only[kE];rw[if_pos ⟨hc.1,⟨hc.2.1.1,by omega⟩,hc.2.2.1,hc.2.2.2,by omega⟩];exact h1
   ·rw[h2 f,List.mem_cons,List.map_cons,List.mem_cons];constructor
    ·rintro((h|h)|h)
     ·exact Or.inr (Or.inl h)
     ·exact Or.inl h
     ·exact Or.inr (Or.inr h)
    ·rintro(h|h|h)
     ·exact Or.inl (Or.inr h)
     ·exact Or.inl (Or.inl h)
     ·exact Or.inr h
  ·simp at hb
theorem YL(h:Int): ∀(bs:List aj) (low:Int) (ls ps:List Int),kE bs low ps=some h→ ∃ls',jw h bs low ls ps=some (h,ls')
 | [],low,ls,ps,hb=>by
  simp only[kE,Option.some.injEq]at hb;subst hb;exact⟨ls,rfl⟩
 |b::bs,low,ls,ps,hb=>by
  simp only[kE]at hb;split at hb
  ·next hc=>
   have hle:=(P1 bs _ _ _ hb).1;obtain⟨ls',h1⟩:=YL h bs _ (b.f0::ls) _ hb;refine⟨ls',?_⟩;simp only[jw];rw[if_pos ⟨hc.1,⟨hc.2.1.1,by omega⟩,hc.2.2.1,hc.2.2.2.1⟩];exact h1
  ·simp at hb
theorem Y9(h:Int)(fx:List Int)(bx:List aj):(decide (1≤h∧h≤24)&&(qb h bx (kE bx 0 [])&&(j7 h none fx && fx.all (fun f=>decide (f ∈ bx.map (fun b=>b.f0))))))=jO h fx bx:=by
 unfold jO;by_cases hh:1≤h∧h≤24
 ·rw[decide_eq_true hh,Bool.true_and,Bool.true_and];cases hP:jw h bx 0 [] []with
  |none=>
   have hf:qb h bx (kE bx 0 [])=false:=by
    cases hS:kE bx 0 []with
    |none=>rfl
    |some e=>
     by_cases c:e=h
     ·subst c;obtain⟨ls',hl⟩:=YL e bx 0 [] [] hS;rw[hl]at hP;simp at hP
     ·simp[qb,c]
   rw[hf];simp
  |some z=>
   obtain⟨e,ls⟩:=z;obtain⟨h1,h2⟩:=YJ h hh.2 bx 0 [] [] e ls (by omega) hP;have ha:fx.all (fun f=>decide (f ∈ bx.map (fun b=>b.f0)))=fx.all (fun f=>decide (f ∈ ls)):=by
    congr 1
    funext f;rw[decide_eq_decide,h2 f];simp
   rw[h1,ha];simp only[qb];cases decide (bx≠ [])<;>cases decide (e=h)<;>cases j7 h none fx<;>cases fx.all (fun f=>decide (f ∈ ls))<;>rfl
 ·rw[decide_eq_false hh,Bool.false_and,Bool.false_and,Bool.false_and,Bool.false_and]
def Da(h:Int)(L:List Int):Option Int→List Int→Bool
 |_,[]=>true
 |p,f::fs=>decide (1≤f∧f≤h-1)&&(match p with|none=>true|some q=>decide (q<f))&& decide (f ∈ L)&& Da h L (some f) fs
theorem ZE(h:Int)(L:List Int): ∀(fs:List Int) (p:Option Int),Da h L p fs=(j7 h p fs && fs.all (fun f=>decide (f ∈ L)))
 | [],p=>rfl
 |f::fs,p=>by
  simp only[Da,j7,List.all_cons];rw[ZE h L fs (some f)]
  ac_rfl
theorem jF{α:Type}{l:List α}{i:Nat}{b:α}{rest:List α}(d:α)(h:l.drop i=b::rest):i<l.length∧l.getD i d=b∧l.drop (i+1)=rest:=by
 have hi:i<l.length:=by
  apply Classical.byContradiction;intro c;rw[List.drop_eq_nil_of_le (by omega)]at h;cases h
 have h2:=drop_cons l d i hi;rw[h]at h2;(injection h2 with h3 h4);exact⟨hi,h3.symm,h4.symm⟩
theorem jE{α:Type}{l:List α}{i:Nat}(h:l.drop i= [])(hi:i≤l.length):i=l.length:=by
 have:=List.drop_eq_nil_iff.mp h;omega
theorem Rh(h:Int)(fx:List Int)(bx:List aj)(i:Nat)(hi:i<fx.length)(hi2:i≤140737488351232)(hl:bx.length≤24)(s:Bool)(hs:Ev (fun k=>dQ.l0 k ((i+1:Nat):Int) h fx bx) s):
  ∀(rest:List aj) (j:Nat) (b:Bool),bx.drop j=rest→j≤bx.length→Ev (fun k=>dQ.l1 k (i:Int) b (j:Int) h fx bx) (if(b||rest.any (fun x=>decide (x.f0=fx.getD i 0)))=true then s else false)
 | [],j,b,hd,hj=>by
  refine Ev.succ ?_;simp only[dQ.l1];have he:=jE hd hj;refine Ev.neg (by omega) ?_;rw[List.any_nil,Bool.or_false,eY i (by omega)];exact Ev.ite (fun _=>hs) (fun _=>Ev.ret _)
 |x::rest,j,b,hd,hj=>by
  obtain⟨h1,h2,h3⟩:=jF eE hd;refine Ev.succ ?_;simp only[dQ.l1];refine Ev.pos (by omega) ?_;rw[eY j (by omega),List.any_cons];cases b with
  |true=>
   refine Ev.pos rfl ?_;refine(Rh h fx bx i hi hi2 hl s hs rest (j+1) true h3 (by omega)).to ?_;rw[Bool.true_or,Bool.true_or]
  |false=>
   refine Ev.neg (by simp) ?_;refine Ev.pos (by omega) ?_;refine Ev.pos (by omega) ?_;refine Ev.pos (by omega) ?_;refine(Rh h fx bx i hi hi2 hl s hs rest (j+1) _ h3 (by omega)).to ?_;rw[Bool.false_or];have e1:ah bx (j:Int)=x:=h2;have e2:rd fx (i:Int)=fx.getD i 0:=rfl;rw[e1,e2];rfl
theorem aeb(fx:List Int)(i:Nat):nx fx ((i+1:Nat):Int)=some (fx.getD i 0):=by
 unfold nx;rw[if_neg (by omega),show((i+1:Nat):Int)-1=(i:Int) by omega];rfl
theorem aiQ(f:Int)(bx:List aj):(bx.any (fun x=>decide (x.f0=f)))=decide (f ∈ bx.map (fun b=>b.f0)):=by
 rw[Bool.eq_iff_iff,List.any_eq_true,decide_eq_true_iff,List.mem_map];constructor
 ·rintro⟨x,hx,e⟩;exact⟨x,hx,of_decide_eq_true e⟩
 ·rintro⟨x,hx,e⟩;exact⟨x,hx,decide_eq_true e⟩
theorem ZG(h:Int)(h0:1≤h)(h1:h≤24)(fx:List Int)(hx:fx.length≤140737488351232)(bx:List aj)(hl:bx.length≤24):
  ∀(rest:List Int) (i:Nat),fx.drop i=rest→i≤fx.length→Ev (fun k=>dQ.l0 k (i:Int) h fx bx) (Da h (bx.map (fun b=>b.f0)) (nx fx (i:Int)) rest)
 | [],i,hd,hj=>by
  refine Ev.succ ?_;simp only[dQ.l0];have he:=jE hd hj;refine Ev.neg (by omega) ?_;exact Ev.ret _
 |f::rest,i,hd,hj=>by
  obtain⟨h2,h3,h4⟩:=jF 0 hd;have ih:=ZG h h0 h1 fx hx bx hl rest (i+1) h4 (by omega);have hf:=Rh h fx bx i h2 (by omega) hl _ ih bx 0 false rfl (by omega);rw[Bool.false_or,aiQ,h3,aeb,h3]at hf;have er:rd fx (i:Int)=f:=h3;have go: ∀(b:Bool),Ev (fun k=>dQ.j2 k (i:Int) b h fx bx) (if b=true then false else if decide (f ∈ bx.map (fun b=>b.f0))=true then Da h (bx.map (fun b=>b.f0)) (some f) rest else false):=by
   intro b;refine Ev.succ ?_;simp only[dQ.j2];exact Ev.ite (fun _=>Ev.ret _) (fun _=>hf)
  refine Ev.succ ?_;simp only[dQ.l0];refine Ev.pos (by omega) ?_;refine Ev.pos (by omega) ?_;rw[er,wid (h-1) (by omega) (by omega)];refine Ev.bind (Ev.const (Jn _ _ _)) ?_;simp only[Da];by_cases c1:1≤f∧f≤h-1
  ·refine Ev.pos (decide_eq_true c1) ?_;rw[decide_eq_true c1,Bool.true_and];by_cases c2:(i:Int)>0
   ·have hp:nx fx (i:Int)=some (fx.getD (i-1) 0):=by
     have:=aeb fx (i-1)
     rwa [show i-1+1=i by omega]at this
    have e2:rd fx ((i-1:Nat):Int)=fx.getD (i-1) 0:=rfl;refine Ev.pos c2 ?_;rw[VU i (by omega) (by omega),hp,e2];refine Ev.pos (by omega) ?_;refine Ev.pos (by omega) ?_;refine(go _).to ?_;by_cases c3:f≤fx.getD (i-1) 0
    ·rw[if_pos (decide_eq_true c3)];simp only[decide_eq_false (show¬fx.getD (i-1) 0<f by omega),Bool.false_and]
    ·rw[if_neg (by simpa using c3)];simp only[decide_eq_true (show fx.getD (i-1) 0<f by omega),Bool.true_and];cases decide (f ∈ bx.map (fun b=>b.f0))<;>simp
   ·(have hp:nx fx (i:Int)=none:=by unfold nx;rw[if_pos (by omega)]);refine Ev.neg c2 ?_;refine(go _).to ?_;rw[hp];cases decide (f ∈ bx.map (fun b=>b.f0))<;>simp
  ·refine Ev.neg (by simpa using c1) ?_;refine(go _).to ?_;rw[if_pos rfl,decide_eq_false c1];simp only[Bool.false_and]
theorem Za(h:Int)(fx:List Int)(hx:fx.length≤140737488351232)(bx:List aj)(hl:bx.length≤140737488351232):Ev (fun k=>dQ.f k h fx bx) (jO h fx bx):=by
 refine Ev.of_eq ?_ (fun k=>by unfold dQ.f;rfl);refine Ev.bind (Ev.const (Jn _ _ _)) ?_;rw[←Y9,←ZE];by_cases hh:1≤h∧h≤24
 ·refine Ev.pos (decide_eq_true hh) ?_;refine Ev.bind (Ev.mk 1100 (fun k hk=>ajc h fx bx hl k hk)) ?_;rw[decide_eq_true hh,Bool.true_and];refine Ev.succ ?_;simp only[dQ.j0];cases hS:kE bx 0 []with
  |none=>
   refine Ev.pos (by simp[qb]) ?_;exact Ev.ret _
  |some e=>
   by_cases hb:qb h bx (some e)=true
   ·rw[hb];have hle:=P1 bx 0 [] e hS;have he:e≤24:=hle.2.2 (by omega);refine Ev.neg (by simp) ?_;exact ZG h hh.1 hh.2 fx hx bx (by omega) fx 0 rfl (by omega)
   ·(have cj:qb h bx (some e)=false:=by simpa using hb);rw[cj];refine Ev.pos (by simp) ?_;exact Ev.ret _
 ·refine Ev.neg (by simpa using hh) ?_;rw[decide_eq_false hh,Bool.false_and];refine Ev.succ ?_;simp only[dQ.j0];refine Ev.pos (by simp) ?_;exact Ev.ret _
def iZ(b:aj):Bool:=decide (b.f2=0)&& !b.f3
def dR(l:List aj):Int:=(l.map (fun b=>b.f1)).foldr (· + ·) 0
theorem ku:dR []=0:=rfl
theorem nB(b:aj)(l:List aj):dR (b::l)=b.f1+dR l:=rfl
theorem uk(a b:List aj):dR (a++b)=dR a+dR b:=by
 induction a with
 |nil=>simp[ku]
 |cons x a ih=>rw[List.cons_append,nB,nB,ih];omega
def hO:Int→List aj→Int→Prop
 |lo,[],hi=>lo=hi
 |lo,b::bs,hi=>b.f0=lo∧1≤b.f1∧hO (lo+b.f1) bs hi
theorem pJ: ∀(bs:List aj) (lo hi:Int),hO lo bs hi→lo+dR bs=hi∧lo+bs.length≤hi
 | [],lo,hi,h=>by simp only[hO]at h;subst h;simp[ku]
 |b::bs,lo,hi,h=>by
  obtain⟨_,h1,h2⟩:=h;have:=pJ bs _ _ h2;rw[nB,List.length_cons];omega
theorem xw: ∀(a b:List aj) (lo hi:Int),hO lo (a++b) hi↔hO lo a (lo+dR a)∧hO (lo+dR a) b hi
 | [],b,lo,hi=>by simp[hO,ku]
 |x::a,b,lo,hi=>by
  simp only[List.cons_append,hO,nB];rw[xw a b,show lo+(x.f1+dR a)=lo+x.f1+dR a by omega];constructor
  ·rintro⟨h1,h2,h3,h4⟩;exact⟨⟨h1,h2,h3⟩,h4⟩
  ·rintro⟨⟨h1,h2,h3⟩,h4⟩;exact⟨h1,h2,h3,h4⟩
theorem xx: ∀(bs:List aj) (lo hi:Int),hO lo bs hi→ ∀b ∈ bs,lo≤b.f0∧1≤b.f1∧b.f0+b.f1≤hi
 | [],_,_,_,b,hb=>absurd hb (by simp)
 |x::bs,lo,hi,h,b,hb=>by
  obtain⟨h0,h1,h2⟩:=h;have h3:=pJ bs _ _ h2;rcases List.mem_cons.mp hb with rfl|hb
  ·omega
  ·have:=xx bs _ _ h2 b hb;omega
def Cut(fx:List Int):List aj→Prop
 | []=>True
 |b::_=>iZ b=false∨b.f0 ∈ fx
def gM:List aj→aQ
 | []=>⟨0,0,0⟩
 |b::bs=>⟨0,b.f0,dR (b::bs)⟩
def dW(cur:List aj):List aQ:=if cur= []then[]else[gM cur]
def dS(fx:List Int):List aj→List aj→List aQ
 |cur,[]=>dW cur
 |cur,b::bs=>if iZ b=true then(if cur≠ []∧b.f0 ∉ fx then dS fx (cur++ [b]) bs else dW cur++dS fx [b] bs)else dW cur++dS fx [] bs
def gj(fx:List Int)(bx:List aj):List aQ:=dS fx [] bx
def qH(pre cur bs:List aj):List (List aj×List aj×List aj):=if cur= []then[]else[(pre,cur,bs)]
def jP(fx:List Int):List aj→List aj→List aj→List (List aj×List aj×List aj)
 |pre,cur,[]=>qH pre cur []
 |pre,cur,b::bs=>if iZ b=true then(if cur≠ []∧b.f0 ∉ fx then jP fx pre (cur++ [b]) bs else qH pre cur (b::bs)++jP fx (pre++cur) [b] bs)else qH pre cur (b::bs)++jP fx (pre++cur++ [b]) [] bs
theorem Q7(pre cur bs:List aj):(qH pre cur bs).map (fun d=>gM d.2.1)=dW cur:=by
 unfold qH dW;split<;>rfl
theorem yl(fx:List Int): ∀(bs pre cur:List aj),(jP fx pre cur bs).map (fun d=>gM d.2.1)=dS fx cur bs
 | [],pre,cur=>Q7 pre cur []
 |b::bs,pre,cur=>by
  simp only[jP,dS];split
  ·split
   ·exact yl fx bs _ _
   ·rw[List.map_append,Q7,yl fx bs]
  ·rw[List.map_append,Q7,yl fx bs]
theorem ak7(fx:List Int)(B cur:List aj)(h:Cut fx B):dS fx cur B=dW cur++dS fx [] B:=by
 cases B with
 |nil=>simp[dS,dW]
 |cons b B=>
  have e:dW []= []:=rfl;simp only[dS];by_cases hb:iZ b=true
  ·have hf:b.f0 ∈ fx:=by
    rcases h with h|h
    ·rw[hb]at h;cases h
    ·exact h
   rw[if_pos hb,if_pos hb,if_neg (fun c=>c.2 hf),if_neg (fun c=>c.2 hf),e,List.nil_append]
  ·rw[if_neg hb,if_neg hb,e,List.nil_append]
theorem yo(fx:List Int)(B:List aj)(h:Cut fx B): ∀(A cur:List aj),dS fx cur (A++B)=dS fx cur A++dS fx [] B
 | [],cur=>ak7 fx B cur h
 |a::A,cur=>by
  simp only[List.cons_append,dS];split
  ·split
   ·exact yo fx B h A _
   ·rw[yo fx B h A,List.append_assoc]
  ·rw[yo fx B h A,List.append_assoc]
def Shut(fx:List Int)(A:List aj):Prop:= ∀Z,dS fx [] (A++Z)=dS fx [] A++dS fx [] Z
def KI(fx:List Int)(A:List aj)(lo:Int):Prop:= ∀z Z,z.f0=lo→dS fx [] (A++z::Z)=dS fx [] A++dS fx [] (z::Z)
theorem arE(fx:List Int):Shut fx []:=fun Z=>by simp[dS,dW]
theorem arF(fx:List Int)(A:List aj)(b:aj)(hb:iZ b=false):Shut fx (A++ [b]):=by
 intro Z;have hc: ∀Z,Cut fx (b::Z):=fun Z=>Or.inl hb;(have hb': ¬iZ b=true:=by rw[hb];simp);rw[List.append_assoc,show[b]++Z=b::Z from rfl,yo fx (b::Z) (hc Z),yo fx [b] (hc []),List.append_assoc];simp only[dS];rw[if_neg hb',if_neg hb'];simp[dW]
theorem Shut.at{fx:List Int}{A:List aj}(h:Shut fx A)(lo:Int):KI fx A lo:=fun z Z _=>h (z::Z)
theorem arD(fx:List Int)(A:List aj)(lo:Int)(h:lo ∈ fx):KI fx A lo:=fun z Z e=>yo fx (z::Z) (Or.inr (by rw[e];exact h)) A []
def fl(R:List aj):Int:=(R.headD eE).f0
structure pY(fx:List Int)(bx A R B:List aj):Prop where
 all:A++R++B=bx
 ne:R≠ []
 opn: ∀b ∈ R,iZ b=true
 free: ∀b ∈ R.tail,b.f0 ∉ fx
 pre:KI fx A (fl R)
 post:Cut fx B
theorem Us{R:List aj}(h:R≠ [])(S:List aj):fl (R++S)=fl R:=by
 cases R with
 |nil=>exact absurd rfl h
 |cons x R=>rfl
theorem aj7(fx:List Int): ∀(bs pre cur:List aj),(cur= []→Shut fx pre)→(cur≠ []→KI fx pre (fl cur)∧(∀b ∈ cur,iZ b=true)∧ ∀b ∈ cur.tail,b.f0 ∉ fx)→
  ∀d ∈ jP fx pre cur bs,pY fx (pre++cur++bs) d.1 d.2.1 d.2.2:=by
 intro bs;induction bs with
 |nil=>
  intro pre cur h0 h1 d hd;simp only[jP,qH]at hd;split at hd
  ·simp at hd
  ·next hc=>
   simp only[List.mem_singleton]at hd;subst hd;exact⟨rfl,hc,(h1 hc).2.1,(h1 hc).2.2,(h1 hc).1,trivial⟩
 |cons b bs ih=>
  intro pre cur h0 h1 d hd;simp only[jP]at hd;have em: ∀(hC:Cut fx (b::bs)),d ∈ qH pre cur (b::bs)→pY fx (pre++cur++b::bs) d.1 d.2.1 d.2.2:=by
   intro hC he;simp only[qH]at he;split at he
   ·simp at he
   ·next hc=>
    simp only[List.mem_singleton]at he;subst he;exact⟨rfl,hc,(h1 hc).2.1,(h1 hc).2.2,(h1 hc).1,hC⟩
  by_cases hb:iZ b=true
  ·rw[if_pos hb]at hd;by_cases hc:cur≠ []∧b.f0 ∉ fx
   ·rw[if_pos hc]at hd;obtain⟨g1,g2,g3⟩:=h1 hc.1;have:=ih pre (cur++ [b]) (fun e=>by simp at e) (fun _=>⟨by rw[Us hc.1];exact g1,fun x hx=>by
     rcases List.mem_append.mp hx with hx|hx
     ·exact g2 x hx
     ·rw[List.mem_singleton.mp hx];exact hb,fun x hx=>by
     rw[List.tail_append_of_ne_nil hc.1]at hx;rcases List.mem_append.mp hx with hx|hx
     ·exact g3 x hx
     ·rw[List.mem_singleton.mp hx];exact hc.2⟩) d hd
    simpa using this
   ·rw[if_neg hc]at hd;rcases List.mem_append.mp hd with hd|hd
    ·by_cases nV:cur= []
     ·subst nV;simp[qH]at hd
     ·exact em (Or.inr (Classical.byContradiction fun e=>hc ⟨nV,e⟩)) hd
    ·have:=ih (pre++cur) [b] (fun e=>by simp at e) (fun _=>⟨by
      by_cases nV:cur= []
      ·subst nV;rw[List.append_nil];exact(h0 rfl).at _
      ·exact arD fx _ _ (Classical.byContradiction fun e=>hc ⟨nV,e⟩),fun x hx=>by rw[List.mem_singleton.mp hx];exact hb,fun x hx=>by simp at hx⟩) d hd
     simpa using this
  ·rw[if_neg hb]at hd;(have hb':iZ b=false:=by simpa using hb);rcases List.mem_append.mp hd with hd|hd
   ·exact em (Or.inl hb') hd
   ·have:=ih (pre++cur++ [b]) [] (fun _=>arF fx _ b hb') (fun e=>absurd rfl e) d hd;simpa using this
theorem FG(fx:List Int)(bx:List aj): ∀d ∈ jP fx [] [] bx,pY fx bx d.1 d.2.1 d.2.2:=by
 have:=aj7 fx bx [] [] (fun _=>arE fx) (fun e=>absurd rfl e);simpa using this
theorem ZK(fx:List Int): ∀(R cur:List aj),cur≠ []→(∀b ∈ R,iZ b=true)→(∀b ∈ R,b.f0 ∉ fx)→dS fx cur R= [gM (cur++R)]
 | [],cur,hc,_,_=>by simp only[dS,dW];rw[if_neg hc,List.append_nil]
 |b::R,cur,hc,h1,h2=>by
  simp only[dS];rw[if_pos (h1 b (by simp)),if_pos ⟨hc,h2 b (by simp)⟩,ZK fx R (cur++ [b]) (by simp) (fun x hx=>h1 x (by simp[hx])) (fun x hx=>h2 x (by simp[hx]))];simp
theorem arx{fx:List Int}{bx A R B:List aj}(h:pY fx bx A R B):gj fx R= [gM R]:=by
 have h1:=h.ne;have h2:=h.opn;have h3:=h.free;cases R with
 |nil=>exact absurd rfl h1
 |cons r R=>
  unfold gj;simp only[dS];rw[if_pos (h2 r (by simp)),if_neg (fun c=>c.1 rfl),ZK fx R [r] (by simp) (fun x hx=>h2 x (by simp[hx])) (fun x hx=>h3 x hx)];rfl
theorem Vu{fx:List Int}{bx A R B:List aj}(h:pY fx bx A R B)(N:List aj)(hN:N≠ [])(hs:fl N=fl R∨Cut fx N):gj fx (A++N++B)=gj fx A++gj fx N++gj fx B:=by
 unfold gj;cases N with
 |nil=>exact absurd rfl hN
 |cons n N=>
  have h1:dS fx [] (A++(n::N))=dS fx [] A++dS fx [] (n::N):=by
   rcases hs with hs|hs
   ·exact h.pre n N hs
   ·exact yo fx (n::N) hs A []
  rw[yo fx B h.post,h1]
theorem aeo{fx:List Int}{bx A R B:List aj}(h:pY fx bx A R B):gj fx bx=gj fx A++ [gM R]++gj fx B:=by
 rw[←h.all,Vu h R h.ne (Or.inl rfl),arx h]
theorem FW(fx:List Int): ∀(bs cur:List aj) (lo hi:Int),hO lo bs hi→(cur≠ []→fl cur<lo)→(dS fx cur bs).Pairwise (fun a b=>a.f1<b.f1)∧ ∀g ∈ dS fx cur bs,(cur= []→lo≤g.f1)∧(cur≠ []→fl cur≤g.f1)
 | [],cur,lo,hi,_,hc=>by
  simp only[dS,dW];split
  ·next e=>exact⟨List.Pairwise.nil,fun g hg=>absurd hg (by simp)⟩
  ·next e=>
   refine⟨by simp,fun g hg=>⟨fun c=>absurd c e,fun _=>?_⟩⟩;rw[List.mem_singleton.mp hg];cases cur with
   |nil=>exact absurd rfl e
   |cons x cur=>exact Int.le_refl _
 |b::bs,cur,lo,hi,ht,hc=>by
  obtain⟨e0,e1,e2⟩:=ht;simp only[dS];have em: ∀(L:List aQ),L.Pairwise (fun a b=>a.f1<b.f1)→(∀g ∈ L,lo≤g.f1)→(dW cur++L).Pairwise (fun a b=>a.f1<b.f1)∧ ∀g ∈ dW cur++L,(cur= []→lo≤g.f1)∧(cur≠ []→fl cur≤g.f1):=by
   intro L h1 h2;unfold dW;by_cases e:cur= []
   ·rw[if_pos e,List.nil_append];exact⟨h1,fun g hg=>⟨fun _=>h2 g hg,fun c=>absurd e c⟩⟩
   ·have hl:=hc e;(have L5:(gM cur).f1=fl cur:=by cases cur with|nil=>exact absurd rfl e|cons x cur=>rfl);rw[if_neg e];refine⟨List.pairwise_append.mpr ⟨by simp,h1,fun a ha b hb=>?_⟩,fun g hg=>⟨fun c=>absurd c e,fun _=>?_⟩⟩
    ·rw[List.mem_singleton.mp ha,L5];have:=h2 b hb;omega
    ·rcases List.mem_append.mp hg with hg|hg
     ·rw[List.mem_singleton.mp hg,L5];exact Int.le_refl _
     ·have:=h2 g hg;omega
  split
  ·split
   ·next h=>
    have ih:=FW fx bs (cur++ [b]) _ hi e2 (fun _=>by rw[Us h.1];have:=hc h.1;omega);refine⟨ih.1,fun g hg=>⟨fun c=>absurd c h.1,fun _=>?_⟩⟩;have:=(ih.2 g hg).2 (by simp)
    rwa [Us h.1]at this
   ·have ih:=FW fx bs [b] _ hi e2 (fun _=>by show b.f0<_;omega);exact em _ ih.1 (fun g hg=>by have:=(ih.2 g hg).2 (by simp);show lo≤g.f1;have h2:fl [b]=b.f0:=rfl;omega)
  ·have ih:=FW fx bs [] _ hi e2 (fun e=>absurd rfl e);exact em _ ih.1 (fun g hg=>by have:=(ih.2 g hg).1 rfl;omega)
def mD(lo sz:Int)(N bx:List aj):List aj:=bx.flatMap (fun b=>(if b.f0=lo then N else[])++(if b.f0<lo∨lo+sz≤b.f0 then[b]else[]))
theorem Rf(lo sz:Int)(N:List aj): ∀(l:List aj),(∀b ∈ l,b.f0≠lo∧(b.f0<lo∨lo+sz≤b.f0))→mD lo sz N l=l
 | [],_=>rfl
 |b::l,h=>by
  have h1:=h b (by simp);have ih:=Rf lo sz N l (fun x hx=>h x (by simp[hx]));unfold mD at ih⊢;rw[List.flatMap_cons,ih,if_neg h1.1,if_pos h1.2];rfl
theorem Zx(lo sz:Int)(N:List aj): ∀(l:List aj),(∀b ∈ l,lo<b.f0∧b.f0<lo+sz)→mD lo sz N l= []
 | [],_=>rfl
 |b::l,h=>by
  have h1:=h b (by simp);have ih:=Zx lo sz N l (fun x hx=>h x (by simp[hx]));unfold mD at ih⊢;rw[List.flatMap_cons,ih,if_neg (by omega),if_neg (by omega)];rfl
theorem ak1{A R B:List aj}{lo hi:Int}(h:hO lo (A++R++B) hi)(hR:R≠ [])(N:List aj):mD (fl R) (dR R) N (A++R++B)=A++N++B:=by
 rw[xw,xw]at h;obtain⟨⟨hA,hM⟩,hB⟩:=h;rw[uk]at hB;cases R with
 |nil=>exact absurd rfl hR
 |cons r R=>
  have er:fl (r::R)=r.f0:=rfl;obtain⟨m0,m1,m2⟩:=hM;have s:=pJ _ _ _ m2;unfold mD;rw[List.flatMap_append,List.flatMap_append];have a1:=Rf (fl (r::R)) (dR (r::R)) N A (fun b hb=>by have:=xx _ _ _ hA b hb;rw[er];omega);have a2:=Rf (fl (r::R)) (dR (r::R)) N B (fun b hb=>by have:=xx _ _ _ hB b hb;rw[er,nB]at*;omega);have a3:=Zx (fl (r::R)) (dR (r::R)) N R (fun b hb=>by have:=xx _ _ _ m2 b hb;rw[er,nB];omega);unfold mD at a1 a2 a3;rw[a1,a2,List.flatMap_cons,a3,if_pos er.symm,if_neg (by rw[er,nB];have:=pJ _ _ _ m2;omega)];simp
def pF(ps:List Int):List aj→Prop
 | []=>True
 |b::bs=>(0≤b.f2∧b.f2≤999)∧ ¬(0<b.f2∧b.f2 ∈ ps)∧pF (b.f2::ps) bs
theorem KS: ∀(bs:List aj) (low:Int) (ps:List Int) (e:Int),0≤low→low≤24→(kE bs low ps=some e↔hO low bs e∧e≤24∧pF ps bs)
 | [],low,ps,e,h0,h=>by
  simp only[kE,hO,pF,Option.some.injEq];constructor
  ·rintro rfl;exact⟨rfl,h,trivial⟩
  ·rintro⟨h,_⟩;exact h
 |b::bs,low,ps,e,hn,h=>by
  simp only[kE,hO,pF];constructor
  ·intro hs;split at hs
   ·next hc=>
    obtain⟨h1,h2,h3⟩:=(KS bs _ _ e (by omega) hc.2.2.2.2).mp hs;exact⟨⟨hc.1,hc.2.1.1,h1⟩,h2,hc.2.2.1,hc.2.2.2.1,h3⟩
   ·cases hs
  ·rintro⟨⟨h0,h1,h2⟩,h3,h4,h5,h6⟩;have hs:=pJ _ _ _ h2;rw[if_pos ⟨h0,⟨h1,by omega⟩,h4,h5,by omega⟩];exact(KS bs _ _ e (by omega) (by omega)).mpr ⟨h2,h3,h6⟩
structure qZ(h:Int)(fx:List Int)(bx:List aj):Prop where
 hi:1≤h∧h≤24
 lA:hO 0 bx h
 par:pF [] bx
 fix:j7 h none fx=true
 low: ∀f ∈ fx,∃b ∈ bx,b.f0=f
theorem zY(h:Int)(fx:List Int)(bx:List aj):jO h fx bx=true↔qZ h fx bx:=by
 rw[←Y9];constructor
 ·intro e;simp only[Bool.and_eq_true,decide_eq_true_eq]at e;obtain⟨e1,e2,e3,e4⟩:=e;cases hS:kE bx 0 []with
  |none=>rw[hS]at e2;simp[qb]at e2
  |some x=>
   rw[hS]at e2;simp only[qb,Bool.and_eq_true,decide_eq_true_eq]at e2;obtain⟨_,rfl⟩:=e2;obtain⟨t1,t2,t3⟩:=(KS bx 0 [] x (by omega) (by omega)).mp hS;refine⟨e1,t1,t3,e3,fun f hf=>?_⟩;have:=List.all_eq_true.mp e4 f hf;simp only[decide_eq_true_eq,List.mem_map]at this;exact this
 ·intro v;have hS:=(KS bx 0 [] h (by omega) (by omega)).mpr ⟨v.lA,v.hi.2,v.par⟩;have hne:bx≠ []:=by
   intro e;have:=v.lA;rw[e]at this;simp only[hO]at this;have:=v.hi;omega
  simp only[Bool.and_eq_true,decide_eq_true_eq];refine⟨v.hi,?_,v.fix,?_⟩
  ·rw[hS];simp[qb,hne]
  ·exact List.all_eq_true.mpr (fun f hf=>by simp only[decide_eq_true_eq,List.mem_map];exact v.low f hf)
theorem qZ.len{h:Int}{fx:List Int}{bx:List aj}(v:qZ h fx bx):bx.length≤24:=by
 have:=pJ _ _ _ v.lA;have:=v.hi;omega
theorem qZ.mem{h:Int}{fx:List Int}{bx:List aj}(v:qZ h fx bx){b:aj}(hb:b ∈ bx):0≤b.f0∧1≤b.f1∧b.f0+b.f1≤24:=by
 have:=xx _ _ _ v.lA b hb;have:=v.hi;omega
theorem U0: ∀(bs:List aj) (ps:List Int),pF ps bs↔(∀b ∈ bs,0≤b.f2∧b.f2≤999)∧(∀b ∈ bs,0<b.f2→b.f2 ∉ ps)∧bs.Pairwise (fun a b=>0<b.f2→a.f2≠b.f2)
 | [],ps=>by simp[pF]
 |b::bs,ps=>by
  simp only[pF];rw[U0 bs];constructor
  ·rintro⟨h1,h2,h3,h4,h5⟩;refine⟨fun x hx=>?_,fun x hx h0=>?_,List.pairwise_cons.mpr ⟨fun x hx h0 e=>h4 x hx h0 (by rw[←e];simp),h5⟩⟩
   ·rcases List.mem_cons.mp hx with rfl|hx
    ·exact h1
    ·exact h3 x hx
   ·rcases List.mem_cons.mp hx with rfl|hx
    ·exact fun hm=>h2 ⟨h0,hm⟩
    ·exact fun hm=>h4 x hx h0 (by simp[hm])
  ·rintro⟨h1,h2,h3⟩;obtain⟨h4,h5⟩:=List.pairwise_cons.mp h3;refine⟨h1 b (by simp),fun h=>h2 b (by simp) h.1 h.2,fun x hx=>h1 x (by simp[hx]),fun x hx h0 hm=>?_,h5⟩;rcases List.mem_cons.mp hm with e|hm
   ·exact h4 x hx h0 e.symm
   ·exact h2 x (by simp[hx]) h0 hm
def nZ(size:Int):Option aQ→List aQ→Option aQ
 |best,[]=>best
 |best,g::l=>if size≤g.f2∧(∀b ∈ best,g.f2<b.f2)then nZ size (some g) l else nZ size best l
def lp(size:Int)(l:List aQ):Option aQ:=if size<1 then none else nZ size none l
theorem Ur(size:Int): ∀(l:List aQ) (b:aQ),size≤b.f2→
  (nZ size (some b) l=some b∧ ∀x ∈ l,x.f2<size∨b.f2≤x.f2)∨ ∃l1 g l2,l=l1++g::l2∧nZ size (some b) l=some g∧size≤g.f2∧g.f2<b.f2∧(∀x ∈ l1,x.f2<size∨g.f2<x.f2)∧ ∀x ∈ l2,x.f2<size∨g.f2≤x.f2
 | [],b,hb=>Or.inl ⟨rfl,by simp⟩
 |y::l,b,hb=>by
  simp only[nZ,Option.mem_def,Option.some.injEq,forall_eq'];by_cases c:size≤y.f2∧y.f2<b.f2
  ·rw[if_pos c];right;rcases Ur size l y c.1 with⟨h1,h2⟩|⟨l1,g,l2,h0,h1,h2,h3,h4,h5⟩
   ·exact⟨[],y,l,rfl,h1,c.1,c.2,by simp,h2⟩
   ·exact⟨y::l1,g,l2,by rw[h0];rfl,h1,h2,by omega,fun x hx=>by
     rcases List.mem_cons.mp hx with rfl|hx
     ·exact Or.inr h3
     ·exact h4 x hx,h5⟩
  ·rw[if_neg c];rcases Ur size l b hb with⟨h1,h2⟩|⟨l1,g,l2,h0,h1,h2,h3,h4,h5⟩
   ·left;exact⟨h1,fun x hx=>by
     rcases List.mem_cons.mp hx with rfl|hx
     ·omega
     ·exact h2 x hx⟩
   ·right;exact⟨y::l1,g,l2,by rw[h0];rfl,h1,h2,h3,fun x hx=>by
     rcases List.mem_cons.mp hx with rfl|hx
     ·omega
     ·exact h4 x hx,h5⟩
theorem MN(size:Int): ∀(l:List aQ),
  (nZ size none l=none∧ ∀x ∈ l,x.f2<size)∨ ∃l1 g l2,l=l1++g::l2∧nZ size none l=some g∧size≤g.f2∧(∀x ∈ l1,x.f2<size∨g.f2<x.f2)∧ ∀x ∈ l2,x.f2<size∨g.f2≤x.f2
 | []=>Or.inl ⟨rfl,by simp⟩
 |y::l=>by
  simp only[nZ];by_cases c:size≤y.f2
  ·rw[if_pos ⟨c,fun b hb=>by cases hb⟩];right;rcases Ur size l y c with⟨h1,h2⟩|⟨l1,g,l2,h0,h1,h2,h3,h4,h5⟩
   ·exact⟨[],y,l,rfl,h1,c,by simp,h2⟩
   ·exact⟨y::l1,g,l2,by rw[h0];rfl,h1,h2,fun x hx=>by
     rcases List.mem_cons.mp hx with rfl|hx
     ·exact Or.inr h3
     ·exact h4 x hx,h5⟩
  ·rw[if_neg (fun h=>c h.1)];rcases MN size l with⟨h1,h2⟩|⟨l1,g,l2,h0,h1,h2,h4,h5⟩
   ·left;exact⟨h1,fun x hx=>by
     rcases List.mem_cons.mp hx with rfl|hx
     ·omega
     ·exact h2 x hx⟩
   ·right;exact⟨y::l1,g,l2,by rw[h0];rfl,h1,h2,fun x hx=>by
     rcases List.mem_cons.mp hx with rfl|hx
     ·omega
     ·exact h4 x hx,h5⟩
theorem aqA{size:Int}{l:List aQ}{g:aQ}(h:lp size l=some g):g ∈ l∧size≤g.f2∧1≤size∧ ∀x ∈ l,size≤x.f2→g.f2≤x.f2:=by
 unfold lp at h;split at h
 ·cases h
 ·rcases MN size l with⟨h1,h2⟩|⟨l1,y,l2,h0,h1,h2,h4,h5⟩
  ·rw[h1]at h;cases h
  ·rw[h1]at h;obtain rfl:=Option.some.inj h;refine⟨by rw[h0];simp,h2,by omega,fun x hx hs=>?_⟩;rw[h0]at hx;rcases List.mem_append.mp hx with hx|hx
   ·have:=h4 x hx;omega
   ·rcases List.mem_cons.mp hx with rfl|hx
    ·exact Int.le_refl _
    ·have:=h5 x hx;omega
def Nt(b:jM):aj:=⟨b.f0,b.f1,b.f2,b.f3⟩
theorem arW(l:List Int)(hl:l.length≤1048576):Ev (fun k=>l5.f k l) l:=Ev.mk l.length (fun k hk=>by
 unfold l5.f;rw[if_pos (by omega),if_pos (by omega)];refine(adJ (L:=fun k acc i=>l5.l0 k l acc i) (xs:=l) (g:=id) 0 (fun k acc i hi ha=>?_) (fun k acc=>?_) l.length k _ 0 (by omega) hk (by simp) (fun j hj=>by omega)).trans (by rw[List.map_id])
 ·simp only[l5.l0];rw[if_pos (by omega),if_pos (by omega),if_pos (by omega),eY i (by omega)];rfl
 ·simp only[l5.l0];rw[if_neg (by omega)])
theorem arT(l:List jM)(hl:l.length≤1048576):Ev (fun k=>lZ.f k l) (l.map Nt):=Ev.mk l.length (fun k hk=>by
 unfold lZ.f;rw[if_pos (by omega),if_pos (by omega)];refine adJ (L:=fun k acc i=>lZ.l0 k l acc i) V7 (fun k acc i hi ha=>?_) (fun k acc=>?_) l.length k _ 0 (by omega) hk (by simp) (fun j hj=>by omega)
 ·simp only[lZ.l0];rw[if_pos (by omega),if_pos (by omega)];simp only[Jt.f,Option.bind_some];rw[if_pos (by omega),eY i (by omega)];rfl
 ·simp only[lZ.l0];rw[if_neg (by omega)])
theorem arV(h:Int)(fx:List Int)(bx:List jM)(hf:fx.length≤1048576)(hb:bx.length≤1048576):Ev (fun k=>DK.f k h fx bx) (h,fx,bx.map Nt):=by
 unfold DK.f;exact Ev.bind (arW fx hf) (Ev.bind (arT bx hb) (Ev.ret _))
theorem arL(h:Int)(fx:List Int)(bx:List jM)(a:Int)(h0:0≤a)(h1:a≤1048576)(hf:fx.length≤9223372036854775807)(hb:bx.length≤9223372036854775807):AX.f h fx bx a=some (if a<fx.length+bx.length then-1 else a-fx.length-bx.length):=by
 unfold AX.f DJ.f DI.f;rw[wid (a-(fx.length:Int)) (by omega) (by omega)];by_cases c:a-(fx.length:Int)<0
 ·rw[if_pos c];simp only[Option.bind_some];rw[if_pos (by omega),if_pos (by omega)]
 ·rw[if_neg c];simp only[Option.bind_some];rw[if_neg c,wid (a-(fx.length:Int)-(bx.length:Int)) (by omega) (by omega)];by_cases d:a-(fx.length:Int)-(bx.length:Int)<0
  ·rw[if_pos d];simp only[Option.bind_some];rw[if_pos (by omega),if_pos (by omega)]
  ·rw[if_neg d];simp only[Option.bind_some];rw[if_neg d,if_neg (by omega)]
theorem akY(l:List Int)(hl:l.length≤1048576):Ev (fun k=>mL.f k l l) true:=Ev.mk l.length (fun k hk=>by
 unfold mL.f;rw[if_pos rfl];have h:=Yo (L:=fun k i=>mL.l0 k l l i) (n:=l.length) (P:=fun _=>true) (fun k i hi=>?_) (fun k=>?_) l.length k 0 (by omega) hk
 ·(have e:(List.range' 0 l.length).all (fun _=>true)=true:=by simp);rw[e]at h;exact h
 ·simp only[mL.l0];rw[if_pos (by omega),if_pos (by omega),if_pos (by omega)];simp only[if_true];rw[eY i (by omega)]
 ·simp only[mL.l0];rw[if_neg (by omega)])
theorem akW(l:List aj)(hl:l.length≤1048576):Ev (fun k=>iS.f k l l) true:=Ev.mk l.length (fun k hk=>by
 unfold iS.f;rw[if_pos rfl];have h:=Yo (L:=fun k i=>iS.l0 k l l i) (n:=l.length) (P:=fun _=>true) (fun k i hi=>?_) (fun k=>?_) l.length k 0 (by omega) hk
 ·(have e:(List.range' 0 l.length).all (fun _=>true)=true:=by simp);rw[e]at h;exact h
 ·simp only[iS.l0];rw[if_pos (by omega),if_pos (by omega),if_pos (by omega)];simp only[DH.f,bne_self_eq_false,Bool.false_eq_true,if_false,if_true,Option.bind_some];rw[eY i (by omega)]
 ·simp only[iS.l0];rw[if_neg (by omega)])
theorem akX(h:Int)(fx:List Int)(bx:List aj)(hf:fx.length≤1048576)(hb:bx.length≤1048576):Ev (fun k=>AV.f k h fx bx h fx bx) true:=by
 unfold AV.f;refine Ev.pos rfl ?_;refine Ev.bind (akY fx hf) ?_;refine Ev.pos rfl ?_;refine Ev.bind (akW bx hb) ?_;refine Ev.pos rfl ?_;exact Ev.ret _
theorem adO{β:Type}{L:Nat→List β→Int→Int→Option (Int×List β)}{n:Nat}{g:Nat→β}{X:Nat→Int}
  (h: ∀k acc (i:Nat),i<n→acc.length=n→L (k+1) acc (X i) (i:Int)=L k (acc.set i (g i)) (X (i+1)) ((i+1:Nat):Int))
  (he: ∀k acc,acc.length=n→L (k+1) acc (X n) (n:Int)=some (X n,acc)) (d:Nat):
  ∀k acc (i:Nat),i+d=n→d<k→acc.length=n→(∀j,j<i→acc[j]? =((List.range n).map g)[j]?)→L k acc (X i) (i:Int)=some (X n,(List.range n).map g):=by
 induction d with
 |zero=>
  intro k acc i hi hk hl hp;obtain⟨k,rfl⟩: ∃m,k=m+1:=⟨k-1,by omega⟩;(obtain rfl:i=n:=by omega);rw[he k acc hl]
  congr 2
  apply List.ext_getElem?;intro j;by_cases hj:j<i
  ·exact hp j hj
  ·rw[List.getElem?_eq_none (by omega),List.getElem?_eq_none (by simp;omega)]
 |succ d ih=>
  intro k acc i hi hk hl hp;obtain⟨k,rfl⟩: ∃m,k=m+1:=⟨k-1,by omega⟩;rw[h k acc i (by omega) hl];refine ih k _ (i+1) (by omega) (by omega) (by simp[hl]) (fun j hj=>?_);by_cases e:i=j
  ·subst e;rw[List.getElem?_set_self (by omega),List.getElem?_map,List.getElem?_range (by omega)];rfl
  ·rw[List.getElem?_set_ne e];exact hp j (by omega)
theorem abk{L:Nat→Int→Int→Option Int}{n:Nat}{X:Nat→Int}
  (h: ∀k (i:Nat),i<n→L (k+1) (X i) (i:Int)=L k (X (i+1)) ((i+1:Nat):Int)) (he: ∀k,L (k+1) (X n) (n:Int)=some (X n)) (d:Nat):
  ∀k (i:Nat),i+d=n→d<k→L k (X i) (i:Int)=some (X n):=by
 induction d with
 |zero=>
  intro k i hi hk;obtain⟨k,rfl⟩: ∃m,k=m+1:=⟨k-1,by omega⟩;(obtain rfl:i=n:=by omega);exact he k
 |succ d ih=>
  intro k i hi hk;obtain⟨k,rfl⟩: ∃m,k=m+1:=⟨k-1,by omega⟩;rw[h k i (by omega)];exact ih k (i+1) (by omega) (by omega)
theorem ZW{β:Type}(n:Nat)(g:Nat→β)(d:β)(i:Nat)(h:i<n):((List.range n).map g).getD i d=g i:=by
 rw[List.getD_eq_getElem?_getD,List.getElem?_map,List.getElem?_range h];rfl
def xl(a:Int)(n:Nat):List Int:=(List.range n).map (fun(j:Nat)=>a+(j:Int))
theorem adN(l:List Int)(hl:l.length≤1048576)(a:Int)(h0:0≤a)(h1:a≤100000000):Ev (fun k=>gN.f k l a) (a+l.length,xl a l.length):=Ev.mk l.length (fun k hk=>by
 unfold gN.f;have h:=adO (L:=fun k acc x i=>gN.l0 k acc x i) (n:=l.length) (g:=fun j=>a+(j:Int)) (X:=fun j=>a+(j:Int)) (fun k acc i hi ha=>?_) (fun k acc ha=>?_) l.length k l 0 (by omega) hk rfl (fun j hj=>by omega)
 ·rw[show a+((0:Nat):Int)=a by omega]at h;exact h
 ·simp only[gN.l0];rw[if_pos (by omega),if_pos (by omega),wid (a+(i:Int)+1) (by omega) (by omega),eY i (by omega),show a+(i:Int)+1=a+((i+1:Nat):Int) by omega];rfl
 ·simp only[gN.l0];rw[if_neg (by omega)])
theorem amY(n:Nat)(hn:n≤1048576)(a:Int)(h0:0≤a)(h1:a≤100000000):Ev (fun k=>mM.f k (xl a n) a) (a+n):=Ev.mk n (fun k hk=>by
 unfold mM.f;(have hl:(xl a n).length=n:=by unfold xl;simp);have h:=abk (L:=fun k x i=>mM.l0 k (xl a n) x i) (n:=n) (X:=fun j=>a+(j:Int)) (fun k i hi=>?_) (fun k=>?_) n k 0 (by omega) hk
 ·rw[show a+((0:Nat):Int)=a by omega]at h;exact h
 ·simp only[mM.l0];have e:rd (xl a n) (i:Int)=a+(i:Int):=ZW n _ _ i hi;rw[if_pos (by omega),if_pos (by omega),e,if_pos rfl,wid (a+(i:Int)+1) (by omega) (by omega),eY i (by omega),show a+(i:Int)+1=a+((i+1:Nat):Int) by omega]
 ·simp only[mM.l0];rw[if_neg (by omega)])
theorem arn{l:List aj}{i:Nat}(h:i<l.length)(v:aj):ah (l.set i v) (i:Int)=v:=by
 show(l.set i v).getD i _=v;rw[List.getD_eq_getElem?_getD,List.getElem?_set_self h];rfl
def MQ(x:Int):aj:=⟨x,x+1,x+2,Int.tmod (x+3) 3==0⟩
def xk(a:Int)(n:Nat):List aj:=(List.range n).map (fun(j:Nat)=>MQ (a+4*(j:Int)))
theorem aqK(a:Int)(n:Nat):(xk a n).length=n:=by unfold xk;simp
theorem adK(l:List aj)(hl:l.length≤1048576)(a:Int)(h0:0≤a)(h1:a≤100000000):Ev (fun k=>fC.f k l a) (a+4*l.length,xk a l.length):=Ev.mk l.length (fun k hk=>by
 unfold fC.f;have h:=adO (L:=fun k acc x i=>fC.l0 k acc x i) (n:=l.length) (g:=fun j=>MQ (a+4*(j:Int))) (X:=fun j=>a+4*(j:Int)) (fun k acc i hi ha=>?_) (fun k acc ha=>?_) l.length k l 0 (by omega) hk rfl (fun j hj=>by omega)
 ·rw[show a+4*((0:Nat):Int)=a by omega]at h;exact h
 ·simp only[fC.l0];generalize hx:a+4*(i:Int)=x;rw[if_pos (by omega),if_pos (by omega)];simp only[Option.bind_some,Int.toNat_natCast];rw[wid (x+1) (by omega) (by omega),wid (x+1+1) (by omega) (by omega),wid (x+1+1+1) (by omega) (by omega),wid (x+1+1+1+1) (by omega) (by omega),eY i (by omega)];(have s1:i<acc.length:=by omega);simp only[arn s1,List.set_set];rw[show x+1+1+1+1=a+4*((i+1:Nat):Int) by omega,show x+1+1+1=x+3 by omega,show x+1+1=x+2 by omega];rfl
 ·simp only[fC.l0];rw[if_neg (by omega)])
theorem amX(n:Nat)(hn:n≤1048576)(a:Int)(h0:0≤a)(h1:a≤100000000):Ev (fun k=>nu.f k (xk a n) a) (a+4*n):=Ev.mk n (fun k hk=>by
 unfold nu.f;have hl:=aqK a n;have h:=abk (L:=fun k x i=>nu.l0 k (xk a n) x i) (n:=n) (X:=fun j=>a+4*(j:Int)) (fun k i hi=>?_) (fun k=>?_) n k 0 (by omega) hk
 ·rw[show a+4*((0:Nat):Int)=a by omega]at h;exact h
 ·simp only[nu.l0];have e:ah (xk a n) (i:Int)=MQ (a+4*(i:Int)):=ZW n _ _ i hi;generalize hx:a+4*(i:Int)=x at e⊢;rw[if_pos (by omega),if_pos (by omega),e];rw[wid (x+1) (by omega) (by omega),wid (x+1+1) (by omega) (by omega),wid (x+1+1+1) (by omega) (by omega),wid (x+1+1+1+1) (by omega) (by omega),eY i (by omega)];rw[show x+1+1+1+1=a+4*((i+1:Nat):Int) by omega,show x+1+1+1=x+3 by omega,show x+1+1=x+2 by omega];simp only[MQ,if_true,bne_self_eq_false,Bool.false_eq_true,if_false]
 ·simp only[nu.l0];rw[if_neg (by omega)])
theorem ajS(l:List Int)(hl:l.length≤4398046511103):Ev (fun _=>yR.f l) l:=Ev.const (by
 unfold yR.f;simp only[Option.bind_some,List.length_nil,List.nil_append,Nat.zero_add];rw[if_pos (by omega)])
theorem ajR(l:List aj)(hl:l.length≤4398046511103):Ev (fun _=>yK.f l) l:=Ev.const (by
 unfold yK.f;simp only[Option.bind_some,List.length_nil,List.nil_append,Nat.zero_add];rw[if_pos (by omega)])
theorem Zg(h:Int)(fx:List Int)(bx:List aj)(hf:fx.length≤4398046511103)(hb:bx.length≤4398046511103):Ev (fun _=>mI.f h fx bx) (h,fx,bx):=by
 unfold mI.f;exact Ev.bind (ajS fx hf) (Ev.bind (ajR bx hb) (Ev.ret _))
theorem aj4(h:Int)(fx:List Int)(bx:List aj)(hf:fx.length≤4398046511103)(hb:bx.length≤4398046511103):Ev (fun _=>oI.f h fx bx) (h,fx,bx):=Ev.const (by
 unfold oI.f;simp only[Option.bind_some,List.length_nil,List.nil_append,Nat.zero_add];rw[if_pos (by omega),if_pos (by omega)])
theorem ado: ∀(l:List aj) (p i:Int),0≤i→(g7 l p i= -1∧ ∀b ∈ l,b.f2≠p)∨ ∃l1 b l2,l=l1++b::l2∧b.f2=p∧(∀x ∈ l1,x.f2≠p)∧g7 l p i=i+l1.length
 | [],p,i,_=>Or.inl ⟨rfl,by simp⟩
 |b::l,p,i,hi=>by
  simp only[g7];by_cases c:b.f2=p
  ·rw[if_pos c];exact Or.inr ⟨[],b,l,rfl,c,by simp,by simp⟩
  ·rw[if_neg c];rcases ado l p (i+1) (by omega)with⟨h1,h2⟩|⟨l1,x,l2,h1,h2,h3,h4⟩
   ·exact Or.inl ⟨h1,fun y hy=>by
     rcases List.mem_cons.mp hy with rfl|hy
     ·exact c
     ·exact h2 y hy⟩
   ·refine Or.inr ⟨b::l1,x,l2,by rw[h1];rfl,h2,fun y hy=>?_,by rw[h4,List.length_cons];omega⟩;rcases List.mem_cons.mp hy with rfl|hy
    ·exact c
    ·exact h3 y hy
theorem adp(l:List aj)(p:Int):(g7 l p 0= -1∧ ∀b ∈ l,b.f2≠p)∨ ∃l1 b l2,l=l1++b::l2∧b.f2=p∧(∀x ∈ l1,x.f2≠p)∧g7 l p 0=l1.length:=by
 rcases ado l p 0 (Int.le_refl _)with h|⟨l1,b,l2,h1,h2,h3,h4⟩
 ·exact Or.inl h
 ·exact Or.inr ⟨l1,b,l2,h1,h2,h3,by rw[h4];omega⟩
def mY(l:List aj)(p:Int):Int:=if 0<p then g7 l p 0 else-1
theorem YN(h:Int)(fx:List Int)(bx:List aj)(hl:bx.length≤1048576)(p:Int): ∀(rest:List aj) (i:Nat),bx.drop i=rest→i≤bx.length→Ev (fun k=>jJ.l0 k p (i:Int) h fx bx) (if 0<p then g7 rest p (i:Int)else-1)
 | [],i,hd,hi=>by
  have he:=jE hd hi;refine Ev.succ ?_;simp only[jJ.l0];refine Ev.neg (by omega) ?_;refine Ev.to (Ev.ret _) ?_;simp[g7]
 |b::rest,i,hd,hi=>by
  obtain⟨h1,h2,h3⟩:=jF eE hd;have er:ah bx (i:Int)=b:=h2;have ih:=YN h fx bx hl p rest (i+1) h3 (by omega);refine Ev.succ ?_;simp only[jJ.l0,er];refine Ev.pos (by omega) ?_;refine Ev.pos (by omega) ?_;rw[eY i (by omega)];by_cases c:b.f2=p
  ·refine Ev.pos c ?_;by_cases d:p>0
   ·refine Ev.pos d (Ev.to (Ev.ret _) ?_);rw[if_pos d];simp only[g7];rw[if_pos c]
   ·refine Ev.neg d (Ev.to ih ?_);rw[if_neg d,if_neg d]
  ·refine Ev.neg c (Ev.to ih ?_);simp only[g7];rw[if_neg c];rfl
theorem YM(h:Int)(fx:List Int)(bx:List aj)(hl:bx.length≤1048576)(p:Int):Ev (fun k=>jJ.f k h fx bx p) (mY bx p):=by
 unfold jJ.f;exact YN h fx bx hl p bx 0 rfl (by omega)
def Small(cs:List aG):Prop:=cs.length≤1048576∧ ∀c ∈ cs,c.f1.length≤1048576∧c.f2.length≤1048576
def Ld(c d:aG):Bool:=d.f2.all (fun b=>decide (mY c.f2 b.f2<0))
def yc:List aG→List aG→Bool
 |_,[]=>true
 |pre,c::rest=>jO c.f0 c.f1 c.f2 &&(pre.all (fun p=>Ld p c)&& yc (pre++ [c]) rest)
theorem Yt(cs:List aG)(hs:Small cs)(i j:Nat)(hi:i<cs.length)(hj:j<i)(r:Bool)(hr:Ev (fun k=>dK.l1 k cs (i:Int) ((j+1:Nat):Int)) r):
  ∀(rest:List aj) (n:Nat),(cs.getD i ep).f2.drop n=rest→n≤(cs.getD i ep).f2.length→Ev (fun k=>dK.l2 k cs (i:Int) (j:Int) (n:Int)) (rest.all (fun b=>decide (mY (cs.getD j ep).f2 b.f2<0))&& r)
 | [],n,hd,hn=>by
  have he:=jE hd hn;have er:av cs (i:Int)=cs.getD i ep:=rfl;have hl:=hs.1;refine Ev.succ ?_;simp only[dK.l2,er];refine Ev.pos (by omega) (Ev.pos (by omega) (Ev.neg (by omega) ?_));rw[eY j (by omega)];exact hr
 |b::rest,n,hd,hn=>by
  obtain⟨h1,h2,h3⟩:=jF eE hd;have er:av cs (i:Int)=cs.getD i ep:=rfl;have FT:av cs (j:Int)=cs.getD j ep:=rfl;have eb:ah (cs.getD i ep).f2 (n:Int)=b:=h2;have hl:=hs.1;(have hmem:cs.getD i ep ∈ cs:=by rw[m6 _ hi];exact List.getElem_mem _);(have aoD:cs.getD j ep ∈ cs:=by rw[m6 _ (show j<cs.length by omega)];exact List.getElem_mem _);have Ma:=(hs.2 _ hmem).2;have Tc:=(hs.2 _ aoD).2;have ih:=Yt cs hs i j hi hj r hr rest (n+1) h3 (by omega);refine Ev.succ ?_;simp only[dK.l2,er,FT,eb,List.all_cons];refine Ev.pos (by omega) (Ev.pos (by omega) (Ev.pos (by omega) (Ev.pos (by omega) (Ev.pos (by omega) (Ev.pos (by omega) ?_)))));refine Ev.bind (YM _ _ _ Tc _) ?_;rw[eY n (by omega)];by_cases c:mY (cs.getD j ep).f2 b.f2<0
  ·refine Ev.neg (by omega) ?_;rw[decide_eq_true c,Bool.true_and];exact ih
  ·refine Ev.pos (by omega) ?_;rw[decide_eq_false c,Bool.false_and,Bool.false_and];exact Ev.ret _
theorem Ys(cs:List aG)(hs:Small cs)(i:Nat)(hi:i<cs.length)(r:Bool)(hr:Ev (fun k=>dK.l0 k cs ((i+1:Nat):Int)) r):
  ∀(d j:Nat),j+d=i→Ev (fun k=>dK.l1 k cs (i:Int) (j:Int)) (((cs.take i).drop j).all (fun p=>Ld p (cs.getD i ep))&& r)
 |0,j,hj=>by
  have hl:=hs.1;refine Ev.succ ?_;simp only[dK.l1];refine Ev.neg (by omega) ?_;rw[eY i (by omega),List.drop_eq_nil_of_le (by rw[List.length_take];omega),List.all_nil,Bool.true_and];exact hr
 |d+1,j,hj=>by
  have hl:=hs.1;have ih:=Ys cs hs i hi r hr d (j+1) (by omega);have h2:=Yt cs hs i j hi (by omega) _ ih (cs.getD i ep).f2 0 rfl (by omega);refine Ev.succ ?_;simp only[dK.l1];refine Ev.pos (by omega) (h2.to ?_);have e:(cs.take i).drop j=cs.getD j ep::(cs.take i).drop (j+1):=by
   (have hj2:j<(cs.take i).length:=by rw[List.length_take];omega);rw[drop_cons _ ep j hj2,List.getD_eq_getElem?_getD,List.getElem?_take_of_lt (by omega),←List.getD_eq_getElem?_getD]
  rw[e,List.all_cons,Bool.and_assoc];rfl
theorem Yr(cs:List aG)(hs:Small cs): ∀(rest:List aG) (i:Nat),cs.drop i=rest→i≤cs.length→Ev (fun k=>dK.l0 k cs (i:Int)) (yc (cs.take i) rest)
 | [],i,hd,hi=>by
  have he:=jE hd hi;refine Ev.succ ?_;simp only[dK.l0,yc];exact Ev.neg (by omega) (Ev.ret _)
 |c::rest,i,hd,hi=>by
  obtain⟨h1,h2,h3⟩:=jF ep hd;have er:av cs (i:Int)=c:=h2;(have hc:c ∈ cs:=by rw[←h2,m6 _ h1];exact List.getElem_mem _);have hcs:=hs.2 c hc;have ih:=Yr cs hs rest (i+1) h3 (by omega);have hi1:=Ys cs hs i h1 _ ih i 0 (by omega);refine Ev.succ ?_;simp only[dK.l0,er,yc];refine Ev.pos (by omega) (Ev.pos (by omega) (Ev.bind (Za _ _ (by omega) _ (by omega)) ?_));have et:cs.take (i+1)=cs.take i++ [c]:=by
   rw[List.take_add_one,←h2,List.getD_eq_getElem?_getD,List.getElem?_eq_getElem h1];rfl
  by_cases d:jO c.f0 c.f1 c.f2=true
  ·refine Ev.pos d (hi1.to ?_);rw[d,Bool.true_and,List.drop_zero,h2,et]
  ·refine Ev.neg d ((Ev.ret _).to ?_);(have:jO c.f0 c.f1 c.f2=false:=by simpa using d);rw[this,Bool.false_and]
def C9(c d:aG):Prop:= ∀a ∈ c.f2,∀b ∈ d.f2,0<b.f2→a.f2≠b.f2
theorem YH(l:List aj)(p:Int):mY l p<0↔(0<p→ ∀a ∈ l,a.f2≠p):=by
 unfold mY;by_cases h:0<p
 ·rw[if_pos h];rcases adp l p with⟨h1,h2⟩|⟨l1,b,l2,h1,h2,h3,h4⟩
  ·rw[h1];exact⟨fun _ _=>h2,fun _=>by omega⟩
  ·rw[h4];constructor
   ·intro c;omega
   ·intro c;exact absurd h2 (c h b (by rw[h1];simp))
 ·rw[if_neg h];exact⟨fun _ c=>absurd c h,fun _=>by omega⟩
theorem Zh(c d:aG):Ld c d=true↔C9 c d:=by
 unfold Ld C9;rw[List.all_eq_true];constructor
 ·intro h a ha b hb h0;have:=of_decide_eq_true (h b hb);exact(YH _ _).mp this h0 a ha
 ·intro h b hb;exact decide_eq_true ((YH _ _).mpr (fun h0 a ha=>h a ha b hb h0))
theorem YA: ∀(rest pre:List aG),yc pre rest=true↔(∀c ∈ rest,jO c.f0 c.f1 c.f2=true)∧(∀p ∈ pre,∀c ∈ rest,C9 p c)∧rest.Pairwise C9
 | [],pre=>by simp[yc]
 |c::rest,pre=>by
  simp only[yc,Bool.and_eq_true];rw[YA rest,List.all_eq_true];constructor
  ·rintro⟨h1,h2,h3,h4,h5⟩;refine⟨fun d hd=>?_,fun p hp d hd=>?_,List.pairwise_cons.mpr ⟨fun d hd=>h4 c (by simp) d hd,h5⟩⟩
   ·rcases List.mem_cons.mp hd with rfl|hd
    ·exact h1
    ·exact h3 d hd
   ·rcases List.mem_cons.mp hd with rfl|hd
    ·exact(Zh _ _).mp (h2 p hp)
    ·exact h4 p (by simp[hp]) d hd
  ·rintro⟨h1,h2,h3⟩;obtain⟨h4,h5⟩:=List.pairwise_cons.mp h3;refine⟨h1 c (by simp),fun p hp=>(Zh _ _).mpr (h2 p hp c (by simp)),fun d hd=>h1 d (by simp[hd]),fun p hp d hd=>?_,h5⟩;rcases List.mem_append.mp hp with hp|hp
   ·exact h2 p hp d (by simp[hd])
   ·rw[List.mem_singleton.mp hp];exact h4 d hd
theorem ad8: ∀(bs:List aj) (ps:List Int),bs.Pairwise (fun a b=>0<b.f2→a.f2≠b.f2)→
  ((∀b ∈ bs,0<b.f2→b.f2 ∉ ps)∧ ∃qs,n3 bs ps=some qs∧ ∀x,x ∈ qs↔x ∈ ps∨ ∃b ∈ bs,b.f2=x)∨(¬(∀b ∈ bs,0<b.f2→b.f2 ∉ ps)∧n3 bs ps=none)
 | [],ps,_=>Or.inl ⟨by simp,ps,rfl,by simp⟩
 |b::bs,ps,hp=>by
  obtain⟨h1,h2⟩:=List.pairwise_cons.mp hp;simp only[n3];by_cases c:0<b.f2∧b.f2 ∈ ps
  ·rw[if_pos c];exact Or.inr ⟨fun h=>h b (by simp) c.1 c.2,rfl⟩
  ·rw[if_neg c];rcases ad8 bs (b.f2::ps) h2 with⟨h3,qs,h4,h5⟩|⟨h3,h4⟩
   ·refine Or.inl ⟨fun x hx h0=>?_,qs,h4,fun x=>?_⟩
    ·rcases List.mem_cons.mp hx with rfl|hx
     ·exact fun h=>c ⟨h0,h⟩
     ·exact fun h=>h3 x hx h0 (by simp[h])
    ·rw[h5 x,List.mem_cons];constructor
     ·rintro((h|h)|⟨y,hy,e⟩)
      ·exact Or.inr ⟨b,by simp,h.symm⟩
      ·exact Or.inl h
      ·exact Or.inr ⟨y,by simp[hy],e⟩
     ·rintro(h|⟨y,hy,e⟩)
      ·exact Or.inl (Or.inr h)
      ·rcases List.mem_cons.mp hy with rfl|hy
       ·exact Or.inl (Or.inl e.symm)
       ·exact Or.inr ⟨y,hy,e⟩
   ·refine Or.inr ⟨fun h=>h3 (fun x hx h0 hm=>?_),h4⟩;rcases List.mem_cons.mp hm with e|hm
    ·exact h1 x hx h0 e.symm
    ·exact h x (by simp[hx]) h0 hm
theorem PX: ∀(cs:List aG) (ps:List Int),qE cs ps=true↔(∀c ∈ cs,jO c.f0 c.f1 c.f2=true)∧(∀c ∈ cs,∀b ∈ c.f2,0<b.f2→b.f2 ∉ ps)∧cs.Pairwise C9
 | [],ps=>by simp[qE]
 |c::cs,ps=>by
  simp only[qE,Bool.and_eq_true];by_cases hc:jO c.f0 c.f1 c.f2=true
  ·have v:=(zY _ _ _).mp hc;rcases ad8 c.f2 ps ((U0 _ _).mp v.par).2.2 with⟨h3,qs,h4,h5⟩|⟨h3,h4⟩
   ·rw[h4];dsimp only;rw[PX cs qs];constructor
    ·rintro⟨_,g1,g2,g3⟩;refine⟨fun d hd=>?_,fun d hd b hb h0=>?_,List.pairwise_cons.mpr ⟨fun d hd a ha b hb h0 e=>g2 d hd b hb h0 ((h5 _).mpr (Or.inr ⟨a,ha,e⟩)),g3⟩⟩
     ·rcases List.mem_cons.mp hd with rfl|hd
      ·exact hc
      ·exact g1 d hd
     ·rcases List.mem_cons.mp hd with rfl|hd
      ·exact h3 b hb h0
      ·exact fun h=>g2 d hd b hb h0 ((h5 _).mpr (Or.inl h))
    ·rintro⟨g1,g2,g3⟩;obtain⟨g4,g5⟩:=List.pairwise_cons.mp g3;refine⟨hc,fun d hd=>g1 d (by simp[hd]),fun d hd b hb h0 h=>?_,g5⟩;rcases(h5 _).mp h with h|⟨a,ha,e⟩
     ·exact g2 d (by simp[hd]) b hb h0 h
     ·exact g4 d hd a ha b hb h0 e
   ·rw[h4];dsimp only;constructor
    ·rintro⟨_,h⟩;simp at h
    ·rintro⟨_,g2,_⟩;exact absurd (fun b hb h0=>g2 c (by simp) b hb h0) h3
  ·constructor
   ·rintro⟨h,_⟩;exact absurd h hc
   ·rintro⟨h,_⟩;exact absurd (h c (by simp)) hc
structure Ew(cs:List aG):Prop where
 len:1≤(cs.length:Int)∧(cs.length:Int)≤6
 col: ∀c ∈ cs,jO c.f0 c.f1 c.f2=true
 avn:cs.Pairwise C9
theorem KP(cs:List aG):k6 cs=true↔Ew cs:=by
 unfold k6;rw[Bool.and_eq_true,decide_eq_true_iff,PX];constructor
 ·rintro⟨h1,h2,_,h3⟩;exact⟨h1,h2,h3⟩
 ·rintro⟨h1,h2,h3⟩;exact⟨h1,h2,fun _ _ _ _ _=>by simp,h3⟩
theorem PY(cs:List aG)(hs:Small cs):Ev (fun k=>dK.f k cs) (k6 cs):=by
 unfold dK.f;refine Ev.bind (Ev.const (Jn _ _ _)) ?_;by_cases c:1≤(cs.length:Int)∧(cs.length:Int)≤6
 ·refine Ev.pos (decide_eq_true c) ?_;refine(Yr cs hs cs 0 rfl (by omega)).to ?_;have e:yc [] cs=qE cs []:=by
   rw[Bool.eq_iff_iff,YA,PX];constructor
   ·rintro⟨h1,_,h3⟩;exact⟨h1,fun _ _ _ _ _=>by simp,h3⟩
   ·rintro⟨h1,_,h3⟩;exact⟨h1,fun p hp=>absurd hp (by simp),h3⟩
  unfold k6;rw[decide_eq_true c,Bool.true_and,←e];rfl
 ·refine Ev.neg (by simpa using c) ((Ev.ret _).to ?_);unfold k6;rw[decide_eq_false c,Bool.false_and]
def xy(c:iM):aG:=⟨c.f0,c.f1,c.f2.map Nt⟩
def wt(l:List iM):Int:=(l.map (fun c=>((c.f1.length:Int)+c.f2.length))).foldr (· + ·) 0
theorem JW: ∀(l:List iM),0≤wt l
 | []=>Int.le_refl _
 |c::l=>by
  have:=JW l;show 0≤((c.f1.length:Int)+c.f2.length)+wt l;omega
theorem aeR: ∀(l:List iM) (c:iM),c ∈ l→(c.f1.length:Int)+c.f2.length≤wt l
 | [],c,h=>absurd h (by simp)
 |d::l,c,h=>by
  have hn:=JW l;show _≤((d.f1.length:Int)+d.f2.length)+wt l;rcases List.mem_cons.mp h with rfl|h
  ·omega
  ·have:=aeR l c h;omega
theorem aeu(l:List iM)(hl:l.length≤1048576)(hm: ∀c ∈ l,c.f1.length≤9223372036854775807∧c.f2.length≤9223372036854775807): ∀(rest:List iM) (i:Nat) (a:Int),l.drop i=rest→i≤l.length→0≤a→a≤1048576→Ev (fun k=>lY.l0 k l a (i:Int)) (if a<wt rest then-1 else a-wt rest)
 | [],i,a,hd,hi,h0,h1=>by
  have he:=jE hd hi;refine Ev.succ ?_;simp only[lY.l0];refine Ev.neg (by omega) ((Ev.ret _).to ?_);have:wt []=0:=rfl;rw[this,if_neg (by omega)];omega
 |c::rest,i,a,hd,hi,h0,h1=>by
  obtain⟨h2,h3,h4⟩:=jF Ed hd;have er:gD l (i:Int)=c:=h3;(have hc:c ∈ l:=by rw[←h3,m6 _ h2];exact List.getElem_mem _);have hn:=JW rest;have ew:wt (c::rest)=((c.f1.length:Int)+c.f2.length)+wt rest:=rfl;refine Ev.succ ?_;simp only[lY.l0,er];refine Ev.pos (by omega) (Ev.pos (by omega) (Ev.bind (Ev.const (arL _ _ _ a h0 h1 (hm c hc).1 (hm c hc).2)) ?_));by_cases d:a<(c.f1.length:Int)+c.f2.length
  ·rw[if_pos d,if_pos (by omega)];exact Ev.pos (by omega) (Ev.ret _)
  ·rw[if_neg d,eY i (by omega)];refine Ev.neg (by omega) ((aeu l hl hm rest (i+1) _ h4 (by omega) (by omega) (by omega)).to ?_);by_cases e:a<wt (c::rest)
   ·rw[if_pos e,if_pos (by omega)]
   ·rw[if_neg e,if_neg (by omega)];omega
theorem arM(l:List iM)(hl:l.length≤9223372036854775807)(hm: ∀c ∈ l,c.f1.length≤9223372036854775807∧c.f2.length≤9223372036854775807): ∃r:Int,Ev (fun k=>lY.f k l 1048576) r∧(r<0∨(0≤r∧(l.length:Int)+wt l≤1048576)):=by
 have hn:=JW l;unfold lY.f;rw[wid (1048576-(l.length:Int)) (by omega) (by omega)];by_cases c:1048576-(l.length:Int)<0
 ·exact⟨-1,Ev.pos c (Ev.ret _),Or.inl (by omega)⟩
 ·refine⟨_,Ev.neg c (aeu l (by omega) hm l 0 _ rfl (by omega) (by omega) (by omega)),?_⟩;by_cases d:1048576-(l.length:Int)<wt l
  ·rw[if_pos d];exact Or.inl (by omega)
  ·rw[if_neg d];exact Or.inr ⟨by omega,by omega⟩
theorem adI{α β:Type}{L:Nat→List β→Int→Option (List β)}{xs:List α}{g:α→β}(d0:α)
  (h: ∀acc (i:Nat) r,i<xs.length→acc.length=xs.length→Ev (fun k=>L k (acc.set i (g (xs.getD i d0))) ((i+1:Nat):Int)) r→Ev (fun k=>L k acc (i:Int)) r)
  (he: ∀acc,Ev (fun k=>L k acc (xs.length:Int)) acc): ∀(d:Nat) acc i,i+d=xs.length→acc.length=xs.length→(∀j,j<i→acc[j]? =(xs.map g)[j]?)→Ev (fun k=>L k acc (i:Int)) (xs.map g)
 |0,acc,i,hi,hl,hp=>by
  (obtain rfl:i=xs.length:=by omega);refine(he acc).to ?_;apply List.ext_getElem?;intro j;by_cases hj:j<xs.length
  ·exact hp j hj
  ·rw[List.getElem?_eq_none (by omega),List.getElem?_eq_none (by simp;omega)]
 |d+1,acc,i,hi,hl,hp=>by
  refine h acc i _ (by omega) hl (adI d0 h he d _ (i+1) (by omega) (by simp[hl]) (fun j hj=>?_));by_cases e:i=j
  ·subst e;rw[List.getElem?_set_self (by omega),List.getElem?_map,List.getElem?_eq_getElem (show i<xs.length by omega),List.getD_eq_getElem?_getD,List.getElem?_eq_getElem (show i<xs.length by omega)];rfl
  ·rw[List.getElem?_set_ne e];exact hp j (by omega)
theorem arU(l:List iM)(hl:l.length≤1048576)(hm: ∀c ∈ l,c.f1.length≤1048576∧c.f2.length≤1048576):Ev (fun k=>kr.f k l) (l.map xy):=by
 unfold kr.f;refine Ev.pos (by omega) (Ev.pos (by omega) ?_);refine adI (L:=fun k acc i=>kr.l0 k l acc i) Ed (fun acc i r hi ha ih=>?_) (fun acc=>?_) l.length _ 0 (by omega) (by simp) (fun j hj=>by omega)
 ·refine Ev.succ ?_;simp only[kr.l0];have er:gD l (i:Int)=l.getD i Ed:=rfl;(have hc:l.getD i Ed ∈ l:=by rw[m6 _ hi];exact List.getElem_mem _);rw[er,eY i (by omega)];refine Ev.pos (by omega) (Ev.pos (by omega) (Ev.bind (arV _ _ _ (hm _ hc).1 (hm _ hc).2) (Ev.pos (by omega) ?_)));exact ih
 ·refine Ev.succ ?_;simp only[kr.l0];exact Ev.neg (by omega) (Ev.ret _)
theorem Zt(l:List aG)(hs:Small l):Ev (fun k=>iq.f k l l) true:=by
 have hl:=hs.1;have go: ∀(rest:List aG) (i:Nat),l.drop i=rest→i≤l.length→Ev (fun k=>iq.l0 k l l (i:Int)) true:=by
  intro rest;induction rest with
  |nil=>
   intro i hd hi;have he:=jE hd hi;refine Ev.succ ?_;simp only[iq.l0];exact Ev.neg (by omega) (Ev.ret _)
  |cons c rest ih=>
   intro i hd hi;obtain⟨h1,h2,h3⟩:=jF ep hd;have er:av l (i:Int)=c:=h2;(have hc:c ∈ l:=by rw[←h2,m6 _ h1];exact List.getElem_mem _);refine Ev.succ ?_;simp only[iq.l0,er];rw[eY i (by omega)];exact Ev.pos (by omega) (Ev.pos (by omega) (Ev.pos (by omega) (Ev.bind (akX _ _ _ (hs.2 c hc).1 (hs.2 c hc).2) (Ev.pos (by trivial) (ih (i+1) h3 (by omega))))))
 unfold iq.f;exact Ev.pos rfl (go l 0 rfl (by omega))
theorem aiZ(l:List iM)(hl:Uy l):(∃r:Int,Ev (fun k=>lY.f k l 1048576) r∧r<0)∨(∃r:Int,Ev (fun k=>lY.f k l 1048576) r∧0≤r)∧Ev (fun k=>kr.f k l) (l.map xy)∧Small (l.map xy)∧(l.length:Int)+wt l≤1048576:=by
 obtain⟨h1,h2⟩:=hl;unfold maxLen at h1;obtain⟨r,hr,h3⟩:=arM l (by omega) (fun c hc=>by
  obtain⟨_,⟨h4,_⟩,⟨h5,_⟩⟩:=h2 c hc;unfold maxLen at h4 h5;exact⟨by omega,by omega⟩)
 rcases h3 with h3|⟨h3,h4⟩
 ·exact Or.inl ⟨r,hr,h3⟩
 ·have hn:=JW l;have hm: ∀c ∈ l,c.f1.length≤1048576∧c.f2.length≤1048576:=fun c hc=>by
   have:=aeR l c hc;omega
  refine Or.inr ⟨⟨r,hr,h3⟩,arU l (by omega) hm,⟨by rw[List.length_map];omega,fun c hc=>?_⟩,h4⟩;obtain⟨d,hd,rfl⟩:=List.mem_map.mp hc;have:=hm d hd;exact⟨this.1,by show(d.f2.map Nt).length≤_;rw[List.length_map];exact this.2⟩
def jK:List aG→Int
 | []=>0
 |c::cs=>1+(c.f1.length:Int)+(c.f2.length:Int)+jK cs
theorem JV: ∀cs:List aG,0≤jK cs
 | []=>by simp[jK]
 |c::cs=>by
  have:=JV cs;rw[jK];omega
theorem adL(cs:List aG)(hl:cs.length≤1048576)(hc: ∀c ∈ cs,c.f1.length≤1048576∧c.f2.length≤1048576): ∀(rest:List aG) (i:Nat) (a:Int),cs.drop i=rest→i≤cs.length→0≤a→a+5*jK rest≤10000000→ ∃r,0≤r∧r≤10000000∧Ev (fun k=>iu.l0 k cs a (i:Int)) r
 | [],i,a,hd,hi,h0,h1=>by
  have he:=jE hd hi;refine⟨a,h0,by rw[jK]at h1;omega,Ev.succ ?_⟩;simp only[iu.l0];exact Ev.neg (by omega) (Ev.ret _)
 |c::rest,i,a,hd,hi,h0,h1=>by
  obtain⟨q1,q2,q3⟩:=jF ep hd;have er:av cs (i:Int)=c:=q2;have hw:=JV rest;(have hm:c ∈ cs:=by rw[←q2,m6 _ q1];exact List.getElem_mem _);rw[jK]at h1;obtain⟨r,r1,r2,e⟩:=adL cs hl hc rest (i+1) (a+1+(c.f1.length:Int)+4*(c.f2.length:Int)) q3 (by omega) (by omega) (by omega);refine⟨r,r1,r2,Ev.succ ?_⟩;simp only[iu.l0,er];rw[wid (a+1) (by omega) (by omega),eY i (by omega)];refine Ev.pos (by omega) (Ev.pos (by omega) (Ev.bind (adN c.f1 (hc c hm).1 (a+1) (by omega) (by omega)) (Ev.bind (adK c.f2 (hc c hm).2 (a+1+(c.f1.length:Int)) (by omega) (by omega)) e)))
theorem aqJ(cs:List aG)(hs:Small cs)(hw:jK cs≤1048576): ∃r,0≤r∧r≤10000000∧Ev (fun k=>iu.f k cs 1) r:=
 adL cs hs.1 hs.2 cs 0 1 rfl (by omega) (by omega) (by omega)
theorem aeQ: ∀(l:List iM),jK (l.map xy)=(l.length:Int)+wt l
 | []=>by simp[jK,wt]
 |c::l=>by
  have ih:=aeQ l;have e0:wt (c::l)=((c.f1.length:Int)+c.f2.length)+wt l:=rfl;rw[List.map_cons,jK,ih,e0,List.length_cons];(have e1:(xy c).f1.length=c.f1.length:=by simp[xy]);(have e2:(xy c).f2.length=c.f2.length:=by simp[xy]);omega
theorem aaq(l:List Int)(hl:l.length≤1048576)(x:Int): ∀(rest:List Int) (i:Nat),l.drop i=rest→i≤l.length→Ev (fun k=>mN.l0 k l x (i:Int)) (decide (x ∈ rest))
 | [],i,hd,hi=>by
  have he:=jE hd hi;refine Ev.succ ?_;simp only[mN.l0];exact Ev.neg (by omega) ((Ev.ret _).to (by simp))
 |b::rest,i,hd,hi=>by
  obtain⟨h1,h2,h3⟩:=jF 0 hd;have er:rd l (i:Int)=b:=h2;have ih:=aaq l hl x rest (i+1) h3 (by omega);refine Ev.succ ?_;simp only[mN.l0,er];refine Ev.pos (by omega) (Ev.pos (by omega) ?_);rw[eY i (by omega)];by_cases c:b=x
  ·exact Ev.pos c ((Ev.ret _).to (by simp[c]))
  ·refine Ev.neg c (ih.to ?_);rw[decide_eq_decide,List.mem_cons];constructor
   ·exact Or.inr
   ·rintro(h|h)
    ·exact absurd h.symm c
    ·exact h
theorem aln(l:List Int)(hl:l.length≤1048576)(x:Int):Ev (fun k=>mN.f k l x) (decide (x ∈ l)):=by
 unfold mN.f;exact aaq l hl x l 0 rfl (by omega)
theorem adr(l:List Int)(hl:l.length≤1048576)(x:Int): ∀(rest:List Int) (i:Nat),l.drop i=rest→i≤l.length→ ∃r:Int,Ev (fun k=>nA.l0 k l x (l.length:Int) (i:Int)) r∧(0≤r↔x ∈ rest)
 | [],i,hd,hi=>by
  have he:=jE hd hi;refine⟨-1,Ev.succ ?_,by simp⟩;simp only[nA.l0];exact Ev.neg (by omega) (Ev.ret _)
 |b::rest,i,hd,hi=>by
  obtain⟨h1,h2,h3⟩:=jF 0 hd;have er:rd l (i:Int)=b:=h2;by_cases c:x=b
  ·refine⟨(i:Int),Ev.succ ?_,by simp[c]⟩;simp only[nA.l0,er];exact Ev.pos (by omega) (Ev.pos (by omega) (Ev.pos (by omega) (Ev.pos c (Ev.ret _))))
  ·obtain⟨r,h4,h5⟩:=adr l hl x rest (i+1) h3 (by omega);refine⟨r,Ev.succ ?_,by rw[h5,List.mem_cons];constructor;exact Or.inr;rintro(h|h);exact absurd h c;exact h⟩;simp only[nA.l0,er];refine Ev.pos (by omega) (Ev.pos (by omega) (Ev.pos (by omega) (Ev.neg c ?_)));rw[eY i (by omega)];exact h4
theorem aj1(l:List Int)(hl:l.length≤1048576)(x:Int):Ev (fun k=>BS.f k l x) (decide (x ∈ l)):=by
 obtain⟨r,h1,h2⟩:=adr l hl x l 0 rfl (by omega);unfold BS.f nA.f;refine Ev.bind h1 ((Ev.ret _).to ?_);rw[decide_eq_decide];exact h2
def oM(d:List aj×List aj×List aj):dI:=⟨gM d.2.1,(d.1.length:Int),(d.1.length:Int)+(d.2.1.length:Int)⟩
def m4(pre cur:List aj):List dI:=if cur= []then[]else[⟨gM cur,(pre.length:Int),(pre.length:Int)+(cur.length:Int)⟩]
theorem Q8(pre cur bs:List aj):(qH pre cur bs).map oM=m4 pre cur:=by
 unfold qH m4;split<;>rfl
theorem Zl(pre cur:List aj):(m4 pre cur).length≤1∧(cur= []→m4 pre cur= []):=by
 unfold m4;split
 ·next h=>exact⟨by simp,fun _=>rfl⟩
 ·next h=>exact⟨by simp,fun c=>absurd c h⟩
theorem ZI{cur:List aj}(h:cur≠ [])(b:aj):gM (cur++ [b])=⟨(gM cur).f0,(gM cur).f1,(gM cur).f2+b.f1⟩:=by
 cases cur with
 |nil=>exact absurd rfl h
 |cons x cur=>
  show(aQ.mk 0 x.f0 (dR (x::cur++ [b])))=aQ.mk 0 x.f0 (dR (x::cur)+b.f1);rw[uk];(have:dR [b]=b.f1:=by rw[nB,ku];omega);rw[this]
theorem ZV{α:Type}(l:List α)(s d:α):(l++ [s]).getD l.length d=s:=by
 rw[List.getD_eq_getElem?_getD,List.getElem?_append_right (Nat.le_refl _),Nat.sub_self];rfl
theorem aeq{α:Type}(l:List α)(s t:α):(l++ [s]).set l.length t=l++ [t]:=by
 rw[List.set_append_right _ _ (Nat.le_refl _),Nat.sub_self];rfl
theorem Ng(h:Int)(fx:List Int)(hf:fx.length≤1048576)(bx:List aj)(hl:bx.length≤24)(hm: ∀b ∈ bx,1≤b.f1∧b.f1≤24):
  ∀(rest:List aj) (i:Nat) (pre cur:List aj) (done:List dI),bx.drop i=rest→i≤bx.length→pre.length+cur.length=i→done.length≤i→0≤dR cur→dR cur≤24*(i:Int)→
  Ev (fun k=>eM.l0 k (done++m4 pre cur) (decide (cur≠ [])) bx (bx.length:Int) (i:Int) h fx bx) (done++(jP fx pre cur rest).map oM)
 | [],i,pre,cur,done,hd,hi,hp,hn,s0,s1=>by
  have he:=jE hd hi;refine Ev.succ ?_;simp only[eM.l0,jP];rw[Q8];exact Ev.neg (by omega) (Ev.ret _)
 |b::rest,i,pre,cur,done,hd,hi,hp,hn,s0,s1=>by
  obtain⟨h1,h2,h3⟩:=jF eE hd;have er:ah bx (i:Int)=b:=h2;(have hb:b ∈ bx:=by rw[←h2,m6 _ h1];exact List.getElem_mem _);have Ge:=hm b hb;have L8:=Zl pre cur;refine Ev.succ ?_;simp only[eM.l0,er];refine Ev.pos (by omega) (Ev.pos (by omega) (Ev.pos (by omega) ?_));have go: ∀(s:Bool),s= !iZ b→Ev (fun k=>eM.j1 k (done++m4 pre cur) (decide (cur≠ [])) (i:Int) bx (bx.length:Int) (i:Int) s h fx bx b.f0 b.f1 b.f2 b.f3) (done++(jP fx pre cur (b::rest)).map oM):=by
   intro s hs;refine Ev.succ ?_;simp only[eM.j1,jP];rw[eY i (by omega)];cases DC:iZ b with
   |false=>
    rw[DC]at hs;subst hs;rw[if_neg (by simp),List.map_append,Q8,←List.append_assoc];have ih:=Ng h fx hf bx hl hm rest (i+1) (pre++cur++ [b]) [] (done++m4 pre cur) h3 (by omega) (by simp;omega) (by simp;omega) (by rw[ku];omega) (by rw[ku];omega);rw[(Zl _ _).2 rfl,List.append_nil]at ih;exact Ev.pos (by trivial) (ih.to rfl)
   |true=>
    rw[DC]at hs;subst hs;refine Ev.neg (by simp) ?_;rw[if_pos rfl];have new:(cur≠ []→b.f0 ∈ fx)→Ev (fun k=>if(done++m4 pre cur).length<3518437208883 then eM.l0 k (done++m4 pre cur++ [⟨⟨0,b.f0,b.f1⟩,(i:Int),((i+1:Nat):Int)⟩]) true bx (bx.length:Int) ((i+1:Nat):Int) h fx bx else none) (done++(if cur≠ []∧b.f0 ∉ fx then jP fx pre (cur++ [b]) rest else qH pre cur (b::rest)++jP fx (pre++cur) [b] rest).map oM):=by
     intro hc;rw[if_neg (fun e=>e.2 (hc e.1)),List.map_append,Q8,←List.append_assoc];(have sb:dR [b]=b.f1:=by rw[nB,ku];omega);have ih:=Ng h fx hf bx hl hm rest (i+1) (pre++cur) [b] (done++m4 pre cur) h3 (by omega) (by simp;omega) (by simp;omega) (by rw[sb];omega) (by rw[sb];omega);refine Ev.pos (by simp;omega) (Ev.of_eq ih (fun k=>?_));have e:m4 (pre++cur) [b]= [⟨⟨0,b.f0,b.f1⟩,(i:Int),((i+1:Nat):Int)⟩]:=by
      unfold m4;rw[if_neg (by simp)];show[(dI.mk (aQ.mk 0 b.f0 (dR [b])) _ _)]=_;rw[sb,List.length_append,hp];rfl
     rw[e];rfl
    by_cases hc:cur= []
    ·(have e:decide (cur≠ [])=false:=by simp[hc]);rw[e];refine Ev.neg (by simp) ?_;exact new (fun c=>absurd hc c)
    ·(have e:decide (cur≠ [])=true:=by simp[hc]);rw[e];refine Ev.pos rfl ?_;refine Ev.bind (aj1 fx hf b.f0) ?_;by_cases wz:b.f0 ∈ fx
     ·refine Ev.pos (decide_eq_true wz) ?_;exact new (fun _=>wz)
     ·refine Ev.neg (by simpa using wz) ?_;rw[if_pos ⟨hc,wz⟩];(have eT:m4 pre cur= [⟨gM cur,(pre.length:Int),(pre.length:Int)+(cur.length:Int)⟩]:=by unfold m4;rw[if_neg hc]);have ih:=Ng h fx hf bx hl hm rest (i+1) pre (cur++ [b]) done h3 (by omega) (by simp;omega) (by omega) (by rw[uk,nB,ku];omega) (by rw[uk,nB,ku];omega);have QZ:m4 pre (cur++ [b])= [⟨⟨(gM cur).f0,(gM cur).f1,(gM cur).f2+b.f1⟩,(pre.length:Int),(i:Int)+1⟩]:=by
       unfold m4;rw[if_neg (by simp),ZI hc,List.length_append];simp;omega
      rw[QZ]at ih;rw[eT];have hw:wrap64 (((done++ [(dI.mk (gM cur) (pre.length:Int) ((pre.length:Int)+(cur.length:Int)))]).length:Int)-1)=(done.length:Int):=by
       simp;unfold wrap64;omega
      (have hg:(gM cur).f2=dR cur:=by cases cur with|nil=>exact absurd rfl hc|cons x cur=>rfl);rw[hw];have hrd: ∀v:dI,ax (done++ [v]) (done.length:Int)=v:=fun v=>ZV done v _;refine Ev.pos (by omega) (Ev.pos (by simp;omega) ?_);simp only[hrd,Int.toNat_natCast,aeq,Option.bind_some];refine Ev.of_eq ih (fun k=>?_);rw[wid ((gM cur).f2+b.f1) (by omega) (by omega),show(pre.length:Int)+(cur.length:Int)=(i:Int) by omega,wid ((i:Int)+1) (by omega) (by omega)];(have e2:decide (cur++ [b]≠ [])=true:=by simp);rw[e2]
  by_cases c2:b.f2=0
  ·refine Ev.pos c2 (go b.f3 ?_);unfold iZ;rw[decide_eq_true c2,Bool.true_and,Bool.not_not]
  ·refine Ev.neg c2 (go true ?_);unfold iZ;rw[decide_eq_false c2];rfl
theorem aep(h:Int)(fx:List Int)(hf:fx.length≤1048576)(bx:List aj)(hl:bx.length≤24)(hm: ∀b ∈ bx,1≤b.f1∧b.f1≤24):Ev (fun k=>eM.f k h fx bx) ((jP fx [] [] bx).map oM):=by
 unfold eM.f;exact Ng h fx hf bx hl hm bx 0 [] [] [] rfl (by omega) rfl (by simp) (by rw[ku];omega) (by rw[ku];omega)
theorem Lp(fx:List Int): ∀(bs cur:List aj),(dS fx cur bs).length≤bs.length+(dW cur).length
 | [],cur=>by simp[dS]
 |b::bs,cur=>by
  (have e1: ∀(x:List aj),(dW x).length≤1:=fun x=>by unfold dW;split<;>simp);have e0:dW []= []:=rfl;simp only[dS];split
  ·split
   ·next h=>
    have:=Lp fx bs (cur++ [b]);(have e2:(dW cur).length=1:=by unfold dW;rw[if_neg h.1];rfl);have:=e1 (cur++ [b]);simp;omega
   ·have:=Lp fx bs [b];have:=e1 [b];simp;omega
  ·have:=Lp fx bs [];rw[e0]at this;simp at this⊢;omega
theorem Lm(fx:List Int)(bx:List aj):(gj fx bx).length≤bx.length:=by
 have:=Lp fx bx [];have e0:dW []= []:=rfl;rw[e0]at this;unfold gj;simpa using this
def Ln(h:Int)(fx:List Int)(bx:List aj):List aQ:=if jO h fx bx=true then gj fx bx else[]
theorem UA(a b c:Int)(d:Bool):oJ.f a b c d=some (iZ ⟨a,b,c,d⟩):=by
 unfold oJ.f iZ;dsimp only;by_cases h:c=0
 ·rw[if_pos h,decide_eq_true h,Bool.true_and]
 ·rw[if_neg h,decide_eq_false h,Bool.false_and]
theorem Lo(h:Int)(fx:List Int)(hf:fx.length≤1048576)(bx:List aj)(hl:bx.length≤24)(hm: ∀b ∈ bx,1≤b.f1∧b.f1≤24):
  ∀(rest:List aj) (i:Nat) (cur:List aj) (done:List aQ),bx.drop i=rest→i≤bx.length→done.length≤i→0≤dR cur→dR cur≤24*(i:Int)→(cur≠ []↔0<i∧iZ (bx.getD (i-1) eE)=true)→
  Ev (fun k=>fS.l0 k (done++dW cur) (i:Int) h fx bx) (done++dS fx cur rest)
 | [],i,cur,done,hd,hi,hn,s0,s1,hc=>by
  have he:=jE hd hi;refine Ev.succ ?_;simp only[fS.l0,dS];exact Ev.neg (by omega) (Ev.ret _)
 |b::rest,i,cur,done,hd,hi,hn,s0,s1,hc=>by
  obtain⟨h1,h2,h3⟩:=jF eE hd;have er:ah bx (i:Int)=b:=h2;(have hb:b ∈ bx:=by rw[←h2,m6 _ h1];exact List.getElem_mem _);have Ge:=hm b hb;have eb:(aj.mk b.f0 b.f1 b.f2 b.f3)=b:=rfl;(have L8:(dW cur).length≤1:=by unfold dW;split<;>simp);refine Ev.succ ?_;simp only[fS.l0,er,dS];rw[eY i (by omega)];refine Ev.pos (by omega) (Ev.pos (by omega) ?_);refine Ev.bind (Ev.const (UA _ _ _ _)) ?_;rw[eb];(have Ux:iZ (bx.getD (i+1-1) eE)=iZ b:=by rw[Nat.add_sub_cancel,h2]);cases DC:iZ b with
  |false=>
   refine Ev.neg (by simp) ?_;rw[if_neg (by simp),←List.append_assoc];have ih:=Lo h fx hf bx hl hm rest (i+1) [] (done++dW cur) h3 (by omega) (by simp;omega) (by rw[ku];omega) (by rw[ku];omega) ⟨fun c=>absurd rfl c,fun c=>by rw[Ux,DC]at c;simp at c⟩;have e0:dW []= []:=rfl;rw[e0,List.append_nil]at ih;exact ih
  |true=>
   refine Ev.pos (by trivial) ?_;rw[if_pos rfl];(have sb:dR [b]=b.f1:=by rw[nB,ku];omega);have new:(cur≠ []→b.f0 ∈ fx)→Ev (fun k=>if(done++dW cur).length<5864062014805 then fS.l0 k (done++dW cur++ [⟨0,b.f0,b.f1⟩]) ((i+1:Nat):Int) h fx bx else none) (done++(if cur≠ []∧b.f0 ∉ fx then dS fx (cur++ [b]) rest else dW cur++dS fx [b] rest)):=by
    intro Gf;rw[if_neg (fun e=>e.2 (Gf e.1)),←List.append_assoc];have ih:=Lo h fx hf bx hl hm rest (i+1) [b] (done++dW cur) h3 (by omega) (by simp;omega) (by rw[sb];omega) (by rw[sb];omega) ⟨fun _=>⟨by omega,by rw[Ux,DC]⟩,fun _=>by simp⟩;refine Ev.pos (by simp;omega) (Ev.of_eq ih (fun k=>?_));have e:dW [b]= [⟨0,b.f0,b.f1⟩]:=by
     unfold dW;rw[if_neg (by simp)];show[(aQ.mk 0 b.f0 (dR [b]))]=_;rw[sb]
    rw[e]
   by_cases nV:cur= []
   ·have hno: ¬(0<i∧iZ (bx.getD (i-1) eE)=true):=fun c=>hc.mpr c nV;by_cases ci:(i:Int)>0
    ·refine Ev.pos ci ?_;rw[VU i (by omega) (by omega)];have FT:ah bx ((i-1:Nat):Int)=bx.getD (i-1) eE:=rfl;refine Ev.pos (by omega) (Ev.pos (by omega) (Ev.bind (Ev.const (UA _ _ _ _)) ?_));rw[FT];refine Ev.neg (fun c=>hno ⟨by omega,c⟩) ?_;exact new (fun c=>absurd nV c)
    ·refine Ev.neg ci ?_;exact new (fun c=>absurd nV c)
   ·obtain⟨ci,co⟩:=hc.mp nV;refine Ev.pos (by omega) ?_;rw[VU i (by omega) (by omega)];have FT:ah bx ((i-1:Nat):Int)=bx.getD (i-1) eE:=rfl;refine Ev.pos (by omega) (Ev.pos (by omega) (Ev.bind (Ev.const (UA _ _ _ _)) ?_));rw[FT];refine Ev.pos co ?_;refine Ev.bind (aln fx hf b.f0) ?_;by_cases wz:b.f0 ∈ fx
    ·refine Ev.pos (decide_eq_true wz) ?_;exact new (fun _=>wz)
    ·refine Ev.neg (by simpa using wz) ?_;rw[if_pos ⟨nV,wz⟩];(have eT:dW cur= [gM cur]:=by unfold dW;rw[if_neg nV]);have ih:=Lo h fx hf bx hl hm rest (i+1) (cur++ [b]) done h3 (by omega) (by omega) (by rw[uk,sb];omega) (by rw[uk,sb];omega) ⟨fun _=>⟨by omega,by rw[Ux,DC]⟩,fun _=>by simp⟩;have QZ:dW (cur++ [b])= [⟨(gM cur).f0,(gM cur).f1,(gM cur).f2+b.f1⟩]:=by
      unfold dW;rw[if_neg (by simp),ZI nV]
     rw[QZ]at ih;rw[eT];(have hg:(gM cur).f2=dR cur:=by cases cur with|nil=>exact absurd rfl nV|cons x cur=>rfl);have hw:wrap64 (((done++ [gM cur]).length:Int)-1)=(done.length:Int):=by
      simp;unfold wrap64;omega
     rw[hw];have hrd: ∀v:aQ,bX (done++ [v]) (done.length:Int)=v:=fun v=>ZV done v _;refine Ev.pos (by omega) (Ev.pos (by simp;omega) ?_);simp only[hrd,Int.toNat_natCast,aeq];rw[wid ((gM cur).f2+b.f1) (by omega) (by omega)];exact ih
theorem ak6(h:Int)(fx:List Int)(hf:fx.length≤1048576)(bx:List aj)(hb:bx.length≤1048576):Ev (fun k=>fS.f k h fx bx) (Ln h fx bx):=by
 unfold fS.f Ln;refine Ev.bind (Ev.ret _) (Ev.bind (Za h fx (by omega) bx (by omega)) ?_);by_cases c:jO h fx bx=true
 ·have v:=(zY h fx bx).mp c;rw[if_pos c];refine Ev.pos c ?_;exact Lo h fx hf bx v.len (fun b hb=>by have:=v.mem hb;omega) bx 0 [] [] rfl (by omega) (by simp) (by rw[ku];omega) (by rw[ku];omega) ⟨fun c=>absurd rfl c,fun c=>absurd c.1 (by omega)⟩
 ·rw[if_neg c];exact Ev.neg c (Ev.ret _)
def fX:Int→List aG→List aQ
 |_,[]=> []
 |k,c::cs=>(gj c.f1 c.f2).map (fun g=>⟨k,g.f1,g.f2⟩)++fX (k+1) cs
def k5(cs:List aG):List aQ:=if k6 cs=true then fX 0 cs else[]
structure Flat(cs:List aG):Prop where
 len:cs.length≤6
 fix: ∀c ∈ cs,c.f1.length≤1048576
 box: ∀c ∈ cs,c.f2.length≤24
 sz: ∀c ∈ cs,∀b ∈ c.f2,1≤b.f1∧b.f1≤24
theorem Ew.flat{cs:List aG}(v:Ew cs)(hs:Small cs):Flat cs:=
 ⟨by have:=v.len;omega,fun c hc=>(hs.2 c hc).1,fun c hc=>((zY _ _ _).mp (v.col c hc)).len,fun c hc b hb=>by have:=((zY _ _ _).mp (v.col c hc)).mem hb;omega⟩
theorem YB{r':List aQ}(cs:List aG)(i:Nat)(hi:i≤1048576)(gs:List aQ)(hg:gs.length≤24)(M:Nat)(hM:M≤1048576)(res:List aQ)
  (hr:Ev (fun k=>fU.l0 k cs res ((i+1:Nat):Int)) r'): ∀(rest:List aQ) (n:Nat) (acc:List aQ),gs.drop n=rest→n≤gs.length→acc.length≤M+n→acc++rest.map (fun g=>⟨(i:Int),g.f1,g.f2⟩)=res→Ev (fun k=>fU.l1 k cs acc (i:Int) gs (n:Int)) r'
 | [],n,acc,hd,hn,ha,wv=>by
  have he:=jE hd hn;refine Ev.succ ?_;simp only[fU.l1];rw[eY i (by omega)];simp at wv;subst wv;exact Ev.neg (by omega) hr
 |g::rest,n,acc,hd,hn,ha,wv=>by
  obtain⟨h1,h2,h3⟩:=jF vD hd;have er:bX gs (n:Int)=g:=h2;refine Ev.succ ?_;simp only[fU.l1,er];rw[eY n (by omega)];exact Ev.pos (by omega) (Ev.pos (by omega) (Ev.pos (by omega) (YB cs i hi gs hg M hM res hr rest (n+1) _ h3 (by omega) (by simp;omega) (by rw[←wv];simp))))
theorem YC(cs:List aG)(hf:Flat cs)(hc: ∀c ∈ cs,jO c.f0 c.f1 c.f2=true): ∀(rest:List aG) (i:Nat) (acc:List aQ),cs.drop i=rest→i≤cs.length→acc.length≤24*i→Ev (fun k=>fU.l0 k cs acc (i:Int)) (acc++fX (i:Int) rest)
 | [],i,acc,hd,hi,ha=>by
  have he:=jE hd hi;have hl:=hf.len;refine Ev.succ ?_;simp only[fU.l0];exact Ev.neg (by omega) ((Ev.ret _).to (by simp[fX]))
 |c::rest,i,acc,hd,hi,ha=>by
  obtain⟨h1,h2,h3⟩:=jF ep hd;have er:av cs (i:Int)=c:=h2;(have hm:c ∈ cs:=by rw[←h2,m6 _ h1];exact List.getElem_mem _);have hl:=hf.len;have hb:=hf.box c hm;(have hg:Ln c.f0 c.f1 c.f2=gj c.f1 c.f2:=by unfold Ln;rw[if_pos (hc c hm)]);have hgl:=Lm c.f1 c.f2;have ih:=YC cs hf hc rest (i+1) (acc++(gj c.f1 c.f2).map (fun g=>⟨(i:Int),g.f1,g.f2⟩)) h3 (by omega) (by simp;omega);refine Ev.succ ?_;simp only[fU.l0,er];refine Ev.pos (by omega) (Ev.pos (by omega) (Ev.bind (ak6 c.f0 c.f1 (hf.fix c hm) c.f2 (by omega)) ?_));rw[hg];refine YB cs i (by omega) _ (by omega) (24*i) (by omega) _ (ih.to ?_) _ 0 acc rfl (by omega) (by omega) rfl;rw[fX,List.append_assoc];rfl
theorem aiX(cs:List aG)(hs:Small cs):Ev (fun k=>fU.f k cs) (k5 cs):=by
 unfold fU.f k5;refine Ev.bind (Ev.ret _) (Ev.bind (PY cs hs) ?_);by_cases hb:k6 cs=true
 ·rw[if_pos hb];have v:=(KP cs).mp hb;exact Ev.pos hb (YC cs (v.flat hs) v.col cs 0 [] rfl (by omega) (by simp))
 ·rw[if_neg hb];exact Ev.neg hb (Ev.ret _)
theorem YD(cs:List aG)(hcs:cs.length≤6)(i:Nat)(hi:i<cs.length)(rs:List dI)(hg:rs.length≤24)(M:Nat)(hM:M≤1048576)(res:List aQ){r':List aQ}
  (hr:Ev (fun k=>iY.l0 k res cs (cs.length:Int) ((i+1:Nat):Int)) r'): ∀(rest:List dI) (n:Nat) (acc:List aQ),rs.drop n=rest→n≤rs.length→acc.length≤M+n→acc++rest.map (fun r=>⟨(i:Int),r.f0.f1,r.f0.f2⟩)=res→Ev (fun k=>iY.l1 k acc (i:Int) cs (cs.length:Int) (i:Int) rs (rs.length:Int) (n:Int)) r'
 | [],n,acc,hd,hn,ha,wv=>by
  have he:=jE hd hn;refine Ev.succ ?_;simp only[iY.l1];rw[eY i (by omega)];simp at wv;subst wv;exact Ev.neg (by omega) hr
 |g::rest,n,acc,hd,hn,ha,wv=>by
  obtain⟨h1,h2,h3⟩:=jF y8 hd;have er:ax rs (n:Int)=g:=h2;refine Ev.succ ?_;simp only[iY.l1,er];rw[eY n (by omega)];exact Ev.pos (by omega) (Ev.pos (by omega) (Ev.pos (by omega) (Ev.pos (by omega) (YD cs hcs i hi rs hg M hM res hr rest (n+1) _ h3 (by omega) (by simp;omega) (by rw[←wv];simp)))))
theorem YE(cs:List aG)(hf:Flat cs): ∀(rest:List aG) (i:Nat) (acc:List aQ),cs.drop i=rest→i≤cs.length→acc.length≤24*i→Ev (fun k=>iY.l0 k acc cs (cs.length:Int) (i:Int)) (acc++fX (i:Int) rest)
 | [],i,acc,hd,hi,ha=>by
  have he:=jE hd hi;have hl:=hf.len;refine Ev.succ ?_;simp only[iY.l0];exact Ev.neg (by omega) ((Ev.ret _).to (by simp[fX]))
 |c::rest,i,acc,hd,hi,ha=>by
  obtain⟨h1,h2,h3⟩:=jF ep hd;have er:av cs (i:Int)=c:=h2;(have hm:c ∈ cs:=by rw[←h2,m6 _ h1];exact List.getElem_mem _);have hl:=hf.len;have hb:=hf.box c hm;have hgl:=Lm c.f1 c.f2;have hdl:((jP c.f1 [] [] c.f2).map oM).length≤24:=by
   have h2:=congrArg List.length (yl c.f1 c.f2 [] []);rw[List.length_map]at h2⊢;unfold gj at hgl;omega
  have ih:=YE cs hf rest (i+1) (acc++(gj c.f1 c.f2).map (fun g=>⟨(i:Int),g.f1,g.f2⟩)) h3 (by omega) (by simp;omega);refine Ev.succ ?_;simp only[iY.l0,er];refine Ev.pos (by omega) (Ev.pos (by omega) (Ev.pos (by omega) (Ev.bind (aep c.f0 c.f1 (hf.fix c hm) c.f2 hb (hf.sz c hm)) ?_)));refine YD cs hl i h1 _ hdl (24*i) (by omega) _ (ih.to ?_) _ 0 acc rfl (by omega) (by omega) ?_
  ·rw[fX,List.append_assoc];rfl
  ·rw[List.drop_zero,List.map_map];unfold gj;rw[←yl c.f1 c.f2 [] [],List.map_map];rfl
theorem aiW(cs:List aG)(hf:Flat cs):Ev (fun k=>iY.f k cs) (fX 0 cs):=by
 unfold iY.f;exact YE cs hf cs 0 [] rfl (by omega) (by simp)
theorem aiY(cs:List aG)(hs:Small cs):Ev (fun k=>AK.f k cs) (k5 cs):=by
 unfold AK.f k5;refine Ev.bind (Ev.const rfl) ?_;by_cases hb:k6 cs=true
 ·rw[if_pos hb];have v:=(KP cs).mp hb;exact Ev.pos hb (Ev.bind (aiW cs (v.flat hs)) (Ev.ret _))
 ·rw[if_neg hb];exact Ev.neg hb (Ev.ret _)
theorem Yy: ∀(cs:List aG) (k:Int),(∀c ∈ cs,c.f2.length≤24)→(fX k cs).length≤24*cs.length
 | [],_,_=>by simp[fX]
 |c::cs,k,h=>by
  have:=Yy cs (k+1) (fun d hd=>h d (by simp[hd]));have:=Lm c.f1 c.f2;have:=h c (by simp);rw[fX];simp;omega
theorem Yu(cs:List aG):(k5 cs).length≤144:=by
 unfold k5;split
 ·next hb=>
  have v:=(KP cs).mp hb;have:=Yy cs 0 (fun c hc=>((zY _ _ _).mp (v.col c hc)).len);have:=v.len;omega
 ·simp
theorem Lq(fx:List Int): ∀(bs cur:List aj) (M:Int),(∀b ∈ bs,1≤b.f1)→(cur≠ []→1≤dR cur)→dR cur+dR bs≤M→ ∀g ∈ dS fx cur bs,1≤g.f2∧g.f2≤M
 | [],cur,M,_,hc,hM,g,hg=>by
  simp only[dS,dW]at hg;split at hg
  ·simp at hg
  ·next h=>
   rw[List.mem_singleton.mp hg];(have L5:(gM cur).f2=dR cur:=by cases cur with|nil=>exact absurd rfl h|cons x cur=>rfl);have:=hc h;rw[ku]at hM;omega
 |b::bs,cur,M,hb,hc,hM,g,hg=>by
  have ld:=hb b (by simp);have Lv: ∀x ∈ bs,1≤x.f1:=fun x hx=>hb x (by simp[hx]);(have sb:dR [b]=b.f1:=by rw[nB,ku];omega);have sn: ∀l:List aj,(∀x ∈ l,1≤x.f1)→0≤dR l:=by
   intro l;induction l with
   |nil=>intro _;exact Int.le_refl _
   |cons x l ih=>intro h;rw[nB];have:=h x (by simp);have:=ih (fun y hy=>h y (by simp[hy]));omega
  have s0:=sn bs Lv;have sc:0≤dR cur:=by
   by_cases h:cur= []
   ·subst h;exact Int.le_refl _
   ·have:=hc h;omega
  rw[nB]at hM;have em: ∀g ∈ dW cur,1≤g.f2∧g.f2≤M:=by
   intro g hg;unfold dW at hg;split at hg
   ·simp at hg
   ·next h=>
    rw[List.mem_singleton.mp hg];(have L5:(gM cur).f2=dR cur:=by cases cur with|nil=>exact absurd rfl h|cons x cur=>rfl);have:=hc h;omega
  simp only[dS]at hg;split at hg
  ·split at hg
   ·exact Lq fx bs (cur++ [b]) M Lv (fun _=>by rw[uk,sb];omega) (by rw[uk,sb];omega) g hg
   ·rcases List.mem_append.mp hg with hg|hg
    ·exact em g hg
    ·exact Lq fx bs [b] M Lv (fun _=>by rw[sb];omega) (by rw[sb];omega) g hg
  ·rcases List.mem_append.mp hg with hg|hg
   ·exact em g hg
   ·exact Lq fx bs [] M Lv (fun h=>absurd rfl h) (by rw[ku];omega) g hg
theorem ak5(fx:List Int)(bx:List aj)(lo hi:Int)(ht:hO lo bx hi): ∀g ∈ gj fx bx,1≤g.f2∧g.f2≤hi-lo:=by
 have:=pJ _ _ _ ht;exact Lq fx bx [] (hi-lo) (fun b hb=>(xx _ _ _ ht b hb).2.1) (fun h=>absurd rfl h) (by rw[ku];omega)
end Go.Proofs.Ytbpjidekjogfeaa.A
