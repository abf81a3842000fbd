/- Used by the law FnBanks. -/
import Derived.ProofKit
import Derived.OpenShut
import Derived.ShutString
import Derived.ChangeOld
import Derived.SizedLaws
import Derived.ChangeArms
import Derived.Test.YtbpjidekjogfeaaZFnBanksx27
namespace Go.Proofs.Ytbpjidekjogfeaa.A
open Go.ChangeShapes Go.WideShapes Go.ChangeAt Go.RowKit Go.Proofs.YtbpjidekjogfeaaW.cN Go.Proofs.YtbpjidekjogfeaaW.dV
set_option linter.unusedVariables false
set_option linter.unusedSimpArgs false
def Kt{α:Type}(P:Program)(t:TypeId)(d:Kd α)(ok:α→Prop):Prop:=
 ∀{H:Type} {enc:TypeId×Value→H} (w:World) (fuel:Nat) (cs:List Value) (x:DataW H×List MemPlace),
  DataW.trod enc P w 0 (fun _=>true) true fuel t cs=some x→ ∃a,d.K w a cs∧ok a
theorem aEK{P:Program}{t:TypeId}{k:IntKind}(ht:P.underlying t=some (.int k)):Kt P t (Kd.int k) (fun a=>(Lit.int k a).wf=true):=by
 intro H enc w fuel cs x h;obtain⟨n,rfl,_,hw⟩:=DataW.trod_int ht h;exact⟨n,rfl,hw⟩
theorem awK(a:Addr)(i j:Nat):(a.add i).add j=a.add (i+j):=by
 unfold Addr.add;by_cases hi:i=0
 ·subst hi;simp
 ·by_cases hj:j=0
  ·subst hj;simp
  ·rw[if_neg hi,if_neg hj,if_neg (by omega)];simp;omega
theorem axV{w:World}{base:Nat}{a:Addr}{n:Nat}{cs:List Value}(h:w.cells? base a n=some cs):cs.length=n∧ ∀i u,cs[i]? =some u→w.cell? (a.add i)=some u:=by
 unfold World.cells? at h;split at h
 ·have l:=mapM_some_length h;simp only[List.length_range]at l;refine⟨l,fun i u hu=>?_⟩;have hi:=(List.getElem?_eq_some_iff.1 hu).1;have:=mapM_some_get h i i (by simp[show i<n by omega]);rw[this];exact hu
 ·cases h
theorem axW{α:Type}{Q:Nat→α→Prop}(m:Nat)(h: ∀i,i<m→ ∃v,Q i v): ∃l:List α,l.length=m∧ ∀i v,l[i]? =some v→Q i v:=by
 induction m with
 |zero=>exact⟨[],rfl,fun i v hv=>by simp at hv⟩
 |succ m ih=>
  obtain⟨l,hl,hq⟩:=ih (fun i hi=>h i (by omega));obtain⟨v,hv⟩:=h m (by omega);refine⟨l++ [v],by simp[hl],fun i u hu=>?_⟩;rcases Nat.lt_trichotomy i m with hi|hi|hi
  ·rw[List.getElem?_append_left (by omega)]at hu;exact hq i u hu
  ·subst hi;rw[List.getElem?_append_right (by omega),hl,Nat.sub_self]at hu;(have:v=u:=by simpa using hu);exact this▸hv
  ·rw[List.getElem?_eq_none (by simp;omega)]at hu;cases hu
theorem aEL{α:Type}{P:Program}{t e:TypeId}{d:Kd α}{ok:α→Prop}(ht:P.underlying t=some (.slice e))(hs:P.cellsOf e=d.sz)(ho:Kt P e d ok):
  Kt P t (Kd.slice e d) (fun l=>l.length≤maxLen∧ ∀x ∈ l,ok x):=by
 intro H enc w fuel cs x h;rcases DataW.trod_slice ht h with⟨rfl,_⟩|⟨a,len,cap,elems,rest,n,_,rfl,_,_,hl,hm,hlen,hel,_,_⟩
 ·exact⟨[],⟨none,0,rfl,Nat.le_refl _,rfl,Nat.zero_le _,fun h=>absurd h (by simp)⟩,by simp,by simp⟩
 ·have each: ∀i,i<len→ ∃v,ok v∧ ∃c,c.length=d.sz∧d.K w v c∧ ∀j u,c[j]? =some u→w.cell? (a.add (i*d.sz+j))=some u:=by
   intro i hi;have h1:=hel i hi;rw[List.getElem?_eq_getElem (by omega)]at h1;obtain⟨c,hc,hr⟩:=Option.bind_eq_some_iff.1 h1;obtain⟨v,hk,hv⟩:=ho w n c _ hr;obtain⟨_,hcell⟩:=axV hc;refine⟨v,hv,c,d.lW hk,hk,fun j u hu=>?_⟩;have:=hcell j u hu;rw[hs,awK]at this;exact this
  obtain⟨l,hll,hq⟩:=axW len each;subst hll;have hm':l.length≤maxLen:=Nat.le_trans hl hm;refine⟨l,⟨some a,cap,rfl,hl,rfl,by unfold maxLen at hm';omega,fun _=>⟨a,rfl,fun j p hp=>?_⟩⟩,hm',fun v hv=>?_⟩
  ·obtain⟨_,c,h1,h2,h3⟩:=hq j p hp;exact⟨c,h1,h2,h3⟩
  ·obtain⟨i,hi,rfl⟩:=List.getElem_of_mem hv;exact(hq i _ (List.getElem?_eq_getElem hi)).1
theorem aEM{α:Type}{H:Type}{enc:TypeId×Value→H}{P:Program}{w:World}{t:TypeId}{d:Kd α}{ok:α→Prop}{v:Value}{x:DataW H}{ps:List MemPlace}(ho:Kt P t d ok)
  (h:DataW.Trod enc P w 0 (fun _=>true) true t v x ps): ∃a,d.K w a v.cells.toList∧ok a:=by
 obtain⟨fuel,hf⟩:=h;exact ho w fuel _ _ hf
theorem aFv{a b:Option Addr}{l m c q:Nat}(h:(Value.slice a l c).cells.toList= [.slice b m q]):a=b∧l=m∧c=q:=by
 simpa[Value.cells]using h
abbrev ok5(a:Int):Prop:=(Lit.int .u8 a).wf=true
abbrev aqn(l:List Int):Prop:=l.length≤maxLen∧ ∀x ∈ l,ok5 x
theorem op5:Kt Try.prog 5 (Kd.int .u8) ok5:=aEK Try.underlying5
theorem aEH:Kt Try.prog 36 (Kd.slice 5 (Kd.int .u8)) aqn:=aEL Try.underlying36 (by kernel_rfl) op5
end Go.Proofs.Ytbpjidekjogfeaa.A
namespace Go.Proofs.Ytbpjidekjogfeaa.A
open Go.RowKit Go.Proofs.YtbpjidekjogfeaaW.cN Go.Proofs.YtbpjidekjogfeaaW.dV Go.Proofs.YtbpjidekjogfeaaW.eF
set_option linter.unusedVariables false
set_option linter.unusedSimpArgs false
def Ev{α:Type}(F:Nat→Option α)(r:α):Prop:= ∃K,∀k,K≤k→F k=some r
theorem Ev.mk{α:Type}{F:Nat→Option α}{r:α}(K:Nat)(h: ∀k,K<k→F k=some r):Ev F r:=⟨K+1,fun k hk=>h k hk⟩
theorem Ev.get{α:Type}{F:Nat→Option α}{r:α}(h:Ev F r): ∃k,F k=some r:=by
 obtain⟨K,h⟩:=h;exact⟨K,h K (Nat.le_refl _)⟩
theorem Ev.const{α:Type}{o:Option α}{r:α}(h:o=some r):Ev (fun _=>o) r:=⟨0,fun _ _=>h⟩
theorem Ev.ret{α:Type}(r:α):Ev (fun _=>some r) r:=⟨0,fun _ _=>rfl⟩
theorem Ev.bind{α β:Type}{F:Nat→Option α}{G:Nat→α→Option β}{a:α}{b:β}(h1:Ev F a)(h2:Ev (fun k=>G k a) b):Ev (fun k=>(F k).bind (G k)) b:=by
 obtain⟨K1,h1⟩:=h1;obtain⟨K2,h2⟩:=h2;refine⟨max K1 K2,fun k hk=>?_⟩;show(F k).bind (G k)=some b;rw[h1 k (by omega)];exact h2 k (by omega)
theorem Ev.pos{α:Type}{c:Prop}[Decidable c]{A B:Nat→Option α}{r:α}(h:c)(hA:Ev A r):Ev (fun k=>if c then A k else B k) r:=by
 obtain⟨K,hA⟩:=hA;exact⟨K,fun k hk=>by show(if c then A k else B k)=some r;rw[if_pos h];exact hA k hk⟩
theorem Ev.neg{α:Type}{c:Prop}[Decidable c]{A B:Nat→Option α}{r:α}(h: ¬c)(hB:Ev B r):Ev (fun k=>if c then A k else B k) r:=by
 obtain⟨K,hB⟩:=hB;exact⟨K,fun k hk=>by show(if c then A k else B k)=some r;rw[if_neg h];exact hB k hk⟩
theorem Ev.ite{α:Type}{c:Prop}[Decidable c]{A B:Nat→Option α}{a b:α}(hA:c→Ev A a)(hB: ¬c→Ev B b):Ev (fun k=>if c then A k else B k) (if c then a else b):=by
 by_cases h:c
 ·rw[if_pos h];exact Ev.pos h (hA h)
 ·rw[if_neg h];exact Ev.neg h (hB h)
theorem Ev.succ{α:Type}{F:Nat→Option α}{r:α}(h:Ev (fun k=>F (k+1)) r):Ev F r:=by
 obtain⟨K,h⟩:=h;refine⟨K+1,fun k hk=>?_⟩;obtain⟨m,rfl⟩: ∃m,k=m+1:=⟨k-1,by omega⟩;exact h m (by omega)
theorem Ev.of_eq{α:Type}{F G:Nat→Option α}{r:α}(h:Ev F r)(e: ∀k,G k=F k):Ev G r:=by
 obtain⟨K,h⟩:=h;exact⟨K,fun k hk=>(e k).trans (h k hk)⟩
theorem Ev.to{α:Type}{F:Nat→Option α}{r s:α}(h:Ev F r)(e:r=s):Ev F s:=e▸h
theorem Ev.uniq{α:Type}{F:Nat→Option α}{r s:α}(h:Ev F r)(g:Ev F s):r=s:=by
 obtain⟨K1,h⟩:=h;obtain⟨K2,g⟩:=g;exact Option.some.inj ((h (max K1 K2) (by omega)).symm.trans (g (max K1 K2) (by omega)))
theorem qe{α:Type}{l:List α}{i:Nat}(d:α)(h:i<l.length):l.getD i d=l[i]:=by
 rw[List.getD_eq_getElem?_getD,List.getElem?_eq_getElem h];rfl
theorem jw(i:Nat)(h:i<9223372036854775807):wrap64 ((i:Int)+1)=((i+1:Nat):Int):=by unfold wrap64;omega
theorem XZ(i:Nat)(h:0<i)(h2:i≤9223372036854775807):wrap64 ((i:Int)-1)=((i-1:Nat):Int):=by unfold wrap64;omega
theorem wid(x:Int)(h: -9223372036854775808≤x)(h2:x≤9223372036854775807):wrap64 x=x:=by unfold wrap64;omega
theorem ajr{L:Nat→Int→Option Bool}{n:Nat}{P:Nat→Bool}(h: ∀k i,i<n→L (k+1) (i:Int)=if P i=true then L k ((i+1:Nat):Int)else some false)
  (he: ∀k,L (k+1) (n:Int)=some true) (d:Nat): ∀k i,i+d=n→d<k→L k (i:Int)=some ((List.range' i d).all P):=by
 induction d with
 |zero=>
  intro k i hi hk;obtain⟨k,rfl⟩: ∃m,k=m+1:=⟨k-1,by omega⟩;(obtain rfl:i=n:=by omega);rw[he];rfl
 |succ d ih=>
  intro k i hi hk;obtain⟨k,rfl⟩: ∃m,k=m+1:=⟨k-1,by omega⟩;rw[h k i (by omega),List.range'_succ,List.all_cons];by_cases hp:P i=true
  ·rw[if_pos hp,ih k (i+1) (by omega) (by omega),hp,Bool.true_and]
  ·rw[if_neg hp];(have:P i=false:=by simpa using hp);rw[this,Bool.false_and]
theorem Iv(a b c:Int):fU.f a b c=some (decide (b≤a∧a≤c)):=by
 unfold fU.f;split
 ·congr 1;rw[decide_eq_decide];omega
 ·congr 1;exact(decide_eq_false (by omega)).symm
def oF:List ai→Int→List Int→Option Int
 | [],low,_=>some low
 |b::bs,low,ps=>if b.f0=low∧(1≤b.f1∧b.f1≤24)∧(0≤b.f2∧b.f2≤999)∧ ¬(0<b.f2∧b.f2 ∈ ps)∧low+b.f1≤24 then oF bs (low+b.f1) (b.f2::ps)else none
def vL(h:Int)(bx:List ai)(o:Option Int):Bool:=match o with|none=>false|some low=>decide (bx≠ [])&& decide (low=h)
theorem aw5(h:Int)(fx:List Int)(bx:List ai)(at_:Int)(i:Nat)(hi:i<bx.length)(hi2:i≤24)(b:ai)(P:Prop)[Decidable P](hP:P↔(0<b.f2∧ ∃j,j<i∧(bx.getD j jf).f2=b.f2))(d:Nat):
  ∀(k j:Nat),j+d=i→d<k→(∀m,m<j→0<b.f2→(bx.getD m jf).f2≠b.f2)→iT.l1 k at_ (i:Int) (j:Int) h fx bx b.f0 b.f1 b.f2 b.f3=if P then some false else(if(wrap64 (at_+b.f1))>24 then(some false)else(iT.l0 (k-d-1) (wrap64 (at_+b.f1)) ((i+1:Nat):Int) h fx bx)):=by
 induction d with
 |zero=>
  intro k j hj hk hn;obtain⟨k,rfl⟩: ∃m,k=m+1:=⟨k-1,by omega⟩;simp only[iT.l1];(have hnp: ¬P:=fun hp=>by obtain⟨h0,m,hm,e⟩:=hP.mp hp;exact hn m (by omega) h0 e);rw[if_neg (by omega),if_neg hnp,jw i (by omega)];rfl
 |succ d ih=>
  intro k j hj hk hn;obtain⟨k,rfl⟩: ∃m,k=m+1:=⟨k-1,by omega⟩;simp only[iT.l1];have er:ah bx (j:Int)=bx.getD j jf:=rfl;rw[if_pos (by omega),er,jw j (by omega)];by_cases c0:b.f2>0
  ·rw[if_pos c0,if_pos (by omega),if_pos (by omega)];by_cases c1:(bx.getD j jf).f2=b.f2
   ·rw[if_pos c1,if_pos (hP.mpr ⟨c0,j,by omega,c1⟩)]
   ·rw[if_neg c1,ih k (j+1) (by omega) (by omega) (fun m hm h0=>by
     by_cases e:m=j
     ·subst e;exact c1
     ·exact hn m (by omega) h0),show k+1-(d+1)-1=k-d-1 by omega]
  ·rw[if_neg c0,ih k (j+1) (by omega) (by omega) (fun m hm h0=>absurd h0 c0),show k+1-(d+1)-1=k-d-1 by omega]
theorem drop_cons{α:Type}(l:List α)(d:α)(i:Nat)(hi:i<l.length):l.drop i=l.getD i d::l.drop (i+1):=by
 rw[List.drop_eq_getElem_cons hi,qe d hi]
theorem aw6(h:Int)(fx:List Int)(bx:List ai)(hl:bx.length≤140737488351232): ∀(d k i:Nat) (at_:Int) (ps:List Int),(24-at_).toNat=d→0≤at_→at_≤24→(i:Int)≤at_→i≤bx.length→(d+2)*40<k→
  (∀x,x ∈ ps↔ ∃j,j<i∧(bx.getD j jf).f2=x)→iT.l0 k at_ (i:Int) h fx bx=some (vL h bx (oF (bx.drop i) at_ ps)):=by
 intro d;induction d using Nat.strongRecOn with
 |_ d ih=>
 intro k i at_ ps hd h0 h1 hi qN hk hps;obtain⟨k,rfl⟩: ∃m,k=m+2:=⟨k-2,by omega⟩;simp only[iT.l0];by_cases c:i<bx.length
 ·have er:ah bx (i:Int)=bx.getD i jf:=rfl;rw[if_pos (by omega),if_pos (by omega),drop_cons bx jf i c,er];simp only[Iv,Option.bind_some,oF];generalize hb:bx.getD i jf=b;by_cases c0:b.f0=at_
  ·rw[if_pos c0];by_cases c1:1≤b.f1∧b.f1≤24
   ·rw[if_pos (decide_eq_true c1)];by_cases c2:0≤b.f2∧b.f2≤999
    ·simp only[decide_eq_true c2,iT.j1,Bool.not_true];rw[if_neg (by simp)];have hin:=aw5 h fx bx at_ i c (by omega) b (0<b.f2∧b.f2 ∈ ps) (by rw[hps]) i k 0 (by omega) (by omega) (fun m hm=>by omega);refine hin.trans ?_;by_cases c3:0<b.f2∧b.f2 ∈ ps
     ·rw[if_pos c3,if_neg (fun h=>h.2.2.2.1 c3)];rfl
     ·rw[if_neg c3,wid (at_+b.f1) (by omega) (by omega)];by_cases c4:at_+b.f1>24
      ·rw[if_pos c4,if_neg (fun h=>by have:=h.2.2.2.2;omega)];rfl
      ·rw[if_neg c4,if_pos ⟨c0,c1,c2,c3,by omega⟩];refine ih (24-(at_+b.f1)).toNat (by omega) _ (i+1) (at_+b.f1) (b.f2::ps) rfl (by omega) (by omega) (by omega) (by omega) (by omega) (fun x=>?_);rw[List.mem_cons,hps];constructor
       ·rintro(rfl|⟨j,hj,e⟩)
        ·exact⟨i,by omega,by rw[hb]⟩
        ·exact⟨j,by omega,e⟩
       ·rintro⟨j,hj,e⟩;by_cases ej:j=i
        ·subst ej;left;rw[←e,hb]
        ·right;exact⟨j,by omega,e⟩
    ·simp only[decide_eq_false c2,iT.j1,Bool.not_false];rw[if_pos trivial,if_neg (fun h=>c2 h.2.2.1)];rfl
   ·rw[if_neg (by simpa using c1)];simp only[iT.j1];rw[if_pos trivial,if_neg (fun h=>c1 h.2.1)];rfl
  ·rw[if_neg c0];simp only[iT.j1];rw[if_pos trivial,if_neg (fun h=>c0 h.1)];rfl
 ·rw[if_neg (by omega),List.drop_eq_nil_of_le (by omega)];simp only[oF,vL];by_cases c0:(bx.length:Int)>0
  ·(have hne:bx≠ []:=by intro e;rw[e]at c0;simp at c0);rw[if_pos c0,decide_eq_true hne,Bool.true_and]
   congr 1
  ·(have hne: ¬bx≠ []:=by intro e;exact e (List.length_eq_zero_iff.mp (by omega)));rw[if_neg c0,decide_eq_false hne,Bool.false_and]
theorem aw4(h:Int)(fx:List Int)(bx:List ai)(hl:bx.length≤140737488351232)(k:Nat)(hk:1100<k):iT.f k h fx bx=some (vL h bx (oF bx 0 [])):=by
 unfold iT.f;have:=aw6 h fx bx hl 24 k 0 0 [] (by omega) (by omega) (by omega) (by omega) (by omega) (by omega) (by simp);exact this
theorem aam: ∀(bs:List ai) (low:Int) (ps:List Int) (e:Int),oF bs low ps=some e→low≤e∧(bs.length:Int)≤e-low∧(low≤24→e≤24)
 | [],low,ps,e,h=>by simp[oF]at h;subst h;exact⟨by omega,by simp,id⟩
 |b::bs,low,ps,e,h=>by
  simp only[oF]at h;split at h
  ·next hc=>
   obtain⟨h1,h2,h3⟩:=aam bs _ _ _ h;exact⟨by omega,by simp;omega,fun _=>h3 (by omega)⟩
  ·simp at h
theorem ajY(h:Int)(hh:h≤24): ∀(bs:List ai) (low:Int) (ls ps:List Int) (e:Int) (ls':List Int),0≤low→mD h bs low ls ps=some (e,ls')→oF bs low ps=some e∧ ∀f,f ∈ ls'↔f ∈ ls∨f ∈ bs.map (fun b=>b.f0)
 | [],low,ls,ps,e,ls',h0,hb=>by
  simp only[mD,Option.some.injEq,Prod.mk.injEq]at hb;obtain⟨rfl,rfl⟩:=hb;exact⟨rfl,fun f=>by simp⟩
 |b::bs,low,ls,ps,e,ls',h0,hb=>by
  simp only[mD]at hb;split at hb
  ·next hc=>
   obtain⟨h1,h2⟩:=ajY h hh bs _ _ _ _ _ (by omega) hb;refine⟨?_,fun f=>?_⟩
   ·simp only[oF];rw[if_pos ⟨hc.1,⟨hc.2.1.1,by omega⟩,hc.2.2.1,hc.2.2.2,by omega⟩];exact h1
   ·rw[h2 f,List.mem_cons,List.map_cons,List.mem_cons];constructor
    ·rintro((h|h)|h)
     ·exact Or.inr (Or.inl h)
     ·exact Or.inl h
     ·exact Or.inr (Or.inr h)
    ·rintro(h|h|h)
     ·exact Or.inl (Or.inr h)
     ·exact Or.inl (Or.inl h)
     ·exact Or.inr h
  ·simp at hb
theorem aj0(h:Int): ∀(bs:List ai) (low:Int) (ls ps:List Int),oF bs low ps=some h→ ∃ls',mD h bs low ls ps=some (h,ls')
 | [],low,ls,ps,hb=>by
  simp only[oF,Option.some.injEq]at hb;subst hb;exact⟨ls,rfl⟩
 |b::bs,low,ls,ps,hb=>by
  simp only[oF]at hb;split at hb
  ·next hc=>
   have hle:=(aam bs _ _ _ hb).1;obtain⟨ls',h1⟩:=aj0 h bs _ (b.f0::ls) _ hb;refine⟨ls',?_⟩;simp only[mD];rw[if_pos ⟨hc.1,⟨hc.2.1.1,by omega⟩,hc.2.2.1,hc.2.2.2.1⟩];exact h1
  ·simp at hb
theorem aky(h:Int)(fx:List Int)(bx:List ai):(decide (1≤h∧h≤24)&&(vL h bx (oF bx 0 [])&&(ny h none fx && fx.all (fun f=>decide (f ∈ bx.map (fun b=>b.f0))))))=hO h fx bx:=by
 unfold hO;by_cases hh:1≤h∧h≤24
 ·rw[decide_eq_true hh,Bool.true_and,Bool.true_and];cases hP:mD h bx 0 [] []with
  |none=>
   have hf:vL h bx (oF bx 0 [])=false:=by
    cases hS:oF bx 0 []with
    |none=>rfl
    |some e=>
     by_cases c:e=h
     ·subst c;obtain⟨ls',hl⟩:=aj0 e bx 0 [] [] hS;rw[hl]at hP;simp at hP
     ·simp[vL,c]
   rw[hf];simp
  |some z=>
   obtain⟨e,ls⟩:=z;obtain⟨h1,h2⟩:=ajY h hh.2 bx 0 [] [] e ls (by omega) hP;have ha:fx.all (fun f=>decide (f ∈ bx.map (fun b=>b.f0)))=fx.all (fun f=>decide (f ∈ ls)):=by
    congr 1
    funext f;rw[decide_eq_decide,h2 f];simp
   rw[h1,ha];simp only[vL];cases decide (bx≠ [])<;>cases decide (e=h)<;>cases ny h none fx<;>cases fx.all (fun f=>decide (f ∈ ls))<;>rfl
 ·rw[decide_eq_false hh,Bool.false_and,Bool.false_and,Bool.false_and,Bool.false_and]
def KW(h:Int)(L:List Int):Option Int→List Int→Bool
 |_,[]=>true
 |p,f::fs=>decide (1≤f∧f≤h-1)&&(match p with|none=>true|some q=>decide (q<f))&& decide (f ∈ L)&& KW h L (some f) fs
theorem ak6(h:Int)(L:List Int): ∀(fs:List Int) (p:Option Int),KW h L p fs=(ny h p fs && fs.all (fun f=>decide (f ∈ L)))
 | [],p=>rfl
 |f::fs,p=>by
  simp only[KW,ny,List.all_cons];rw[ak6 h L fs (some f)]
  ac_rfl
theorem mb{α:Type}{l:List α}{i:Nat}{b:α}{rest:List α}(d:α)(h:l.drop i=b::rest):i<l.length∧l.getD i d=b∧l.drop (i+1)=rest:=by
 have hi:i<l.length:=by
  apply Classical.byContradiction;intro c;rw[List.drop_eq_nil_of_le (by omega)]at h;cases h
 have h2:=drop_cons l d i hi;rw[h]at h2;(injection h2 with h3 h4);exact⟨hi,h3.symm,h4.symm⟩
theorem l9{α:Type}{l:List α}{i:Nat}(h:l.drop i= [])(hi:i≤l.length):i=l.length:=by
 have:=List.drop_eq_nil_iff.mp h;omega
theorem abL(h:Int)(fx:List Int)(bx:List ai)(i:Nat)(hi:i<fx.length)(hi2:i≤140737488351232)(hl:bx.length≤24)(s:Bool)(hs:Ev (fun k=>eM.l0 k ((i+1:Nat):Int) h fx bx) s):
  ∀(rest:List ai) (j:Nat) (b:Bool),bx.drop j=rest→j≤bx.length→Ev (fun k=>eM.l1 k (i:Int) b (j:Int) h fx bx) (if(b||rest.any (fun x=>decide (x.f0=fx.getD i 0)))=true then s else false)
 | [],j,b,hd,hj=>by
  refine Ev.succ ?_;simp only[eM.l1];have he:=l9 hd hj;refine Ev.neg (by omega) ?_;rw[List.any_nil,Bool.or_false,jw i (by omega)];exact Ev.ite (fun _=>hs) (fun _=>Ev.ret _)
 |x::rest,j,b,hd,hj=>by
  obtain⟨h1,h2,h3⟩:=mb jf hd;refine Ev.succ ?_;simp only[eM.l1];refine Ev.pos (by omega) ?_;rw[jw j (by omega),List.any_cons];cases b with
  |true=>
   refine Ev.pos rfl ?_;refine(abL h fx bx i hi hi2 hl s hs rest (j+1) true h3 (by omega)).to ?_;rw[Bool.true_or,Bool.true_or]
  |false=>
   refine Ev.neg (by simp) ?_;refine Ev.pos (by omega) ?_;refine Ev.pos (by omega) ?_;refine Ev.pos (by omega) ?_;refine(abL h fx bx i hi hi2 hl s hs rest (j+1) _ h3 (by omega)).to ?_;rw[Bool.false_or];have e1:ah bx (j:Int)=x:=h2;have e2:rd fx (i:Int)=fx.getD i 0:=rfl;rw[e1,e2];rfl
theorem aqz(fx:List Int)(i:Nat):rX fx ((i+1:Nat):Int)=some (fx.getD i 0):=by
 unfold rX;rw[if_neg (by omega),show((i+1:Nat):Int)-1=(i:Int) by omega];rfl
theorem awO(f:Int)(bx:List ai):(bx.any (fun x=>decide (x.f0=f)))=decide (f ∈ bx.map (fun b=>b.f0)):=by
 rw[Bool.eq_iff_iff,List.any_eq_true,decide_eq_true_iff,List.mem_map];constructor
 ·rintro⟨x,hx,e⟩;exact⟨x,hx,of_decide_eq_true e⟩
 ·rintro⟨x,hx,e⟩;exact⟨x,hx,decide_eq_true e⟩
theorem ak8(h:Int)(h0:1≤h)(h1:h≤24)(fx:List Int)(hx:fx.length≤140737488351232)(bx:List ai)(hl:bx.length≤24):
  ∀(rest:List Int) (i:Nat),fx.drop i=rest→i≤fx.length→Ev (fun k=>eM.l0 k (i:Int) h fx bx) (KW h (bx.map (fun b=>b.f0)) (rX fx (i:Int)) rest)
 | [],i,hd,hj=>by
  refine Ev.succ ?_;simp only[eM.l0];have he:=l9 hd hj;refine Ev.neg (by omega) ?_;exact Ev.ret _
 |f::rest,i,hd,hj=>by
  obtain⟨h2,h3,h4⟩:=mb 0 hd;have ih:=ak8 h h0 h1 fx hx bx hl rest (i+1) h4 (by omega);have hf:=abL h fx bx i h2 (by omega) hl _ ih bx 0 false rfl (by omega);rw[Bool.false_or,awO,h3,aqz,h3]at hf;have er:rd fx (i:Int)=f:=h3;have go: ∀(b:Bool),Ev (fun k=>eM.j2 k (i:Int) b h fx bx) (if b=true then false else if decide (f ∈ bx.map (fun b=>b.f0))=true then KW h (bx.map (fun b=>b.f0)) (some f) rest else false):=by
   intro b;refine Ev.succ ?_;simp only[eM.j2];exact Ev.ite (fun _=>Ev.ret _) (fun _=>hf)
  refine Ev.succ ?_;simp only[eM.l0];refine Ev.pos (by omega) ?_;refine Ev.pos (by omega) ?_;rw[er,wid (h-1) (by omega) (by omega)];refine Ev.bind (Ev.const (Iv _ _ _)) ?_;simp only[KW];by_cases c1:1≤f∧f≤h-1
  ·refine Ev.pos (decide_eq_true c1) ?_;rw[decide_eq_true c1,Bool.true_and];by_cases c2:(i:Int)>0
   ·have hp:rX fx (i:Int)=some (fx.getD (i-1) 0):=by
     have:=aqz fx (i-1)
     rwa [show i-1+1=i by omega]at this
    have e2:rd fx ((i-1:Nat):Int)=fx.getD (i-1) 0:=rfl;refine Ev.pos c2 ?_;rw[XZ i (by omega) (by omega),hp,e2];refine Ev.pos (by omega) ?_;refine Ev.pos (by omega) ?_;refine(go _).to ?_;by_cases c3:f≤fx.getD (i-1) 0
    ·rw[if_pos (decide_eq_true c3)];simp only[decide_eq_false (show¬fx.getD (i-1) 0<f by omega),Bool.false_and]
    ·rw[if_neg (by simpa using c3)];simp only[decide_eq_true (show fx.getD (i-1) 0<f by omega),Bool.true_and];cases decide (f ∈ bx.map (fun b=>b.f0))<;>simp
   ·(have hp:rX fx (i:Int)=none:=by unfold rX;rw[if_pos (by omega)]);refine Ev.neg c2 ?_;refine(go _).to ?_;rw[hp];cases decide (f ∈ bx.map (fun b=>b.f0))<;>simp
  ·refine Ev.neg (by simpa using c1) ?_;refine(go _).to ?_;rw[if_pos rfl,decide_eq_false c1];simp only[Bool.false_and]
theorem KR(h:Int)(fx:List Int)(hx:fx.length≤140737488351232)(bx:List ai)(hl:bx.length≤140737488351232):Ev (fun k=>eM.f k h fx bx) (hO h fx bx):=by
 refine Ev.of_eq ?_ (fun k=>by unfold eM.f;rfl);refine Ev.bind (Ev.const (Iv _ _ _)) ?_;rw[←aky,←ak6];by_cases hh:1≤h∧h≤24
 ·refine Ev.pos (decide_eq_true hh) ?_;refine Ev.bind (Ev.mk 1100 (fun k hk=>aw4 h fx bx hl k hk)) ?_;rw[decide_eq_true hh,Bool.true_and];refine Ev.succ ?_;simp only[eM.j0];cases hS:oF bx 0 []with
  |none=>
   refine Ev.pos (by simp[vL]) ?_;exact Ev.ret _
  |some e=>
   by_cases hb:vL h bx (some e)=true
   ·rw[hb];have hle:=aam bx 0 [] e hS;have he:e≤24:=hle.2.2 (by omega);refine Ev.neg (by simp) ?_;exact ak8 h hh.1 hh.2 fx hx bx (by omega) fx 0 rfl (by omega)
   ·(have aU:vL h bx (some e)=false:=by simpa using hb);rw[aU];refine Ev.pos (by simp) ?_;exact Ev.ret _
 ·refine Ev.neg (by simpa using hh) ?_;rw[decide_eq_false hh,Bool.false_and];refine Ev.succ ?_;simp only[eM.j0];refine Ev.pos (by simp) ?_;exact Ev.ret _
def kj(b:ai):Bool:=decide (b.f2=0)&& !b.f3
def eP(l:List ai):Int:=(l.map (fun b=>b.f1)).foldr (· + ·) 0
theorem m6:eP []=0:=rfl
theorem qq(b:ai)(l:List ai):eP (b::l)=b.f1+eP l:=rfl
theorem xG(a b:List ai):eP (a++b)=eP a+eP b:=by
 induction a with
 |nil=>simp[m6]
 |cons x a ih=>rw[List.cons_append,qq,qq,ih];omega
def jl:Int→List ai→Int→Prop
 |lo,[],hi=>lo=hi
 |lo,b::bs,hi=>b.f0=lo∧1≤b.f1∧jl (lo+b.f1) bs hi
theorem uc: ∀(bs:List ai) (lo hi:Int),jl lo bs hi→lo+eP bs=hi∧lo+bs.length≤hi
 | [],lo,hi,h=>by simp only[jl]at h;subst h;simp[m6]
 |b::bs,lo,hi,h=>by
  obtain⟨_,h1,h2⟩:=h;have:=uc bs _ _ h2;rw[qq,List.length_cons];omega
theorem DP: ∀(a b:List ai) (lo hi:Int),jl lo (a++b) hi↔jl lo a (lo+eP a)∧jl (lo+eP a) b hi
 | [],b,lo,hi=>by simp[jl,m6]
 |x::a,b,lo,hi=>by
  simp only[List.cons_append,jl,qq];rw[DP a b,show lo+(x.f1+eP a)=lo+x.f1+eP a by omega];constructor
  ·rintro⟨h1,h2,h3,h4⟩;exact⟨⟨h1,h2,h3⟩,h4⟩
  ·rintro⟨⟨h1,h2,h3⟩,h4⟩;exact⟨h1,h2,h3,h4⟩
theorem DQ: ∀(bs:List ai) (lo hi:Int),jl lo bs hi→ ∀b ∈ bs,lo≤b.f0∧1≤b.f1∧b.f0+b.f1≤hi
 | [],_,_,_,b,hb=>absurd hb (by simp)
 |x::bs,lo,hi,h,b,hb=>by
  obtain⟨h0,h1,h2⟩:=h;have h3:=uc bs _ _ h2;rcases List.mem_cons.mp hb with rfl|hb
  ·omega
  ·have:=DQ bs _ _ h2 b hb;omega
def Cut(fx:List Int):List ai→Prop
 | []=>True
 |b::_=>kj b=false∨b.f0 ∈ fx
def j5:List ai→br
 | []=>⟨0,0,0⟩
 |b::bs=>⟨0,b.f0,eP (b::bs)⟩
def fY(cur:List ai):List br:=if cur= []then[]else[j5 cur]
def fR(fx:List Int):List ai→List ai→List br
 |cur,[]=>fY cur
 |cur,b::bs=>if kj b=true then(if cur≠ []∧b.f0 ∉ fx then fR fx (cur++ [b]) bs else fY cur++fR fx [b] bs)else fY cur++fR fx [] bs
def iK(fx:List Int)(bx:List ai):List br:=fR fx [] bx
def xk(pre cur bs:List ai):List (List ai×List ai×List ai):=if cur= []then[]else[(pre,cur,bs)]
def mT(fx:List Int):List ai→List ai→List ai→List (List ai×List ai×List ai)
 |pre,cur,[]=>xk pre cur []
 |pre,cur,b::bs=>if kj b=true then(if cur≠ []∧b.f0 ∉ fx then mT fx pre (cur++ [b]) bs else xk pre cur (b::bs)++mT fx (pre++cur) [b] bs)else xk pre cur (b::bs)++mT fx (pre++cur++ [b]) [] bs
theorem aby(pre cur bs:List ai):(xk pre cur bs).map (fun d=>j5 d.2.1)=fY cur:=by
 unfold xk fY;split<;>rfl
theorem EJ(fx:List Int): ∀(bs pre cur:List ai),(mT fx pre cur bs).map (fun d=>j5 d.2.1)=fR fx cur bs
 | [],pre,cur=>aby pre cur []
 |b::bs,pre,cur=>by
  simp only[mT,fR];split
  ·split
   ·exact EJ fx bs _ _
   ·rw[List.map_append,aby,EJ fx bs]
  ·rw[List.map_append,aby,EJ fx bs]
theorem azm(fx:List Int)(B cur:List ai)(h:Cut fx B):fR fx cur B=fY cur++fR fx [] B:=by
 cases B with
 |nil=>simp[fR,fY]
 |cons b B=>
  have e:fY []= []:=rfl;simp only[fR];by_cases hb:kj b=true
  ·have hf:b.f0 ∈ fx:=by
    rcases h with h|h
    ·rw[hb]at h;cases h
    ·exact h
   rw[if_pos hb,if_pos hb,if_neg (fun c=>c.2 hf),if_neg (fun c=>c.2 hf),e,List.nil_append]
  ·rw[if_neg hb,if_neg hb,e,List.nil_append]
theorem EN(fx:List Int)(B:List ai)(h:Cut fx B): ∀(A cur:List ai),fR fx cur (A++B)=fR fx cur A++fR fx [] B
 | [],cur=>azm fx B cur h
 |a::A,cur=>by
  simp only[List.cons_append,fR];split
  ·split
   ·exact EN fx B h A _
   ·rw[EN fx B h A,List.append_assoc]
  ·rw[EN fx B h A,List.append_assoc]
def Shut(fx:List Int)(A:List ai):Prop:= ∀Z,fR fx [] (A++Z)=fR fx [] A++fR fx [] Z
def TE(fx:List Int)(A:List ai)(lo:Int):Prop:= ∀z Z,z.f0=lo→fR fx [] (A++z::Z)=fR fx [] A++fR fx [] (z::Z)
theorem aFt(fx:List Int):Shut fx []:=fun Z=>by simp[fR,fY]
theorem aFu(fx:List Int)(A:List ai)(b:ai)(hb:kj b=false):Shut fx (A++ [b]):=by
 intro Z;have hc: ∀Z,Cut fx (b::Z):=fun Z=>Or.inl hb;(have hb': ¬kj b=true:=by rw[hb];simp);rw[List.append_assoc,show[b]++Z=b::Z from rfl,EN fx (b::Z) (hc Z),EN fx [b] (hc []),List.append_assoc];simp only[fR];rw[if_neg hb',if_neg hb'];simp[fY]
theorem Shut.at{fx:List Int}{A:List ai}(h:Shut fx A)(lo:Int):TE fx A lo:=fun z Z _=>h (z::Z)
theorem aFs(fx:List Int)(A:List ai)(lo:Int)(h:lo ∈ fx):TE fx A lo:=fun z Z e=>EN fx (z::Z) (Or.inr (by rw[e];exact h)) A []
def gx(R:List ai):Int:=(R.headD jf).f0
structure sB(fx:List Int)(bx A R B:List ai):Prop where
 all:A++R++B=bx
 ne:R≠ []
 opn: ∀b ∈ R,kj b=true
 free: ∀b ∈ R.tail,b.f0 ∉ fx
 pre:TE fx A (gx R)
 post:Cut fx B
theorem aea{R:List ai}(h:R≠ [])(S:List ai):gx (R++S)=gx R:=by
 cases R with
 |nil=>exact absurd rfl h
 |cons x R=>rfl
theorem ayc(fx:List Int): ∀(bs pre cur:List ai),(cur= []→Shut fx pre)→(cur≠ []→TE fx pre (gx cur)∧(∀b ∈ cur,kj b=true)∧ ∀b ∈ cur.tail,b.f0 ∉ fx)→
  ∀d ∈ mT fx pre cur bs,sB fx (pre++cur++bs) d.1 d.2.1 d.2.2:=by
 intro bs;induction bs with
 |nil=>
  intro pre cur h0 h1 d hd;simp only[mT,xk]at hd;split at hd
  ·simp at hd
  ·next hc=>
   simp only[List.mem_singleton]at hd;subst hd;exact⟨rfl,hc,(h1 hc).2.1,(h1 hc).2.2,(h1 hc).1,trivial⟩
 |cons b bs ih=>
  intro pre cur h0 h1 d hd;simp only[mT]at hd;have em: ∀(hC:Cut fx (b::bs)),d ∈ xk pre cur (b::bs)→sB fx (pre++cur++b::bs) d.1 d.2.1 d.2.2:=by
   intro hC he;simp only[xk]at he;split at he
   ·simp at he
   ·next hc=>
    simp only[List.mem_singleton]at he;subst he;exact⟨rfl,hc,(h1 hc).2.1,(h1 hc).2.2,(h1 hc).1,hC⟩
  by_cases hb:kj b=true
  ·rw[if_pos hb]at hd;by_cases hc:cur≠ []∧b.f0 ∉ fx
   ·rw[if_pos hc]at hd;obtain⟨g1,g2,g3⟩:=h1 hc.1;have:=ih pre (cur++ [b]) (fun e=>by simp at e) (fun _=>⟨by rw[aea hc.1];exact g1,fun x hx=>by
     rcases List.mem_append.mp hx with hx|hx
     ·exact g2 x hx
     ·rw[List.mem_singleton.mp hx];exact hb,fun x hx=>by
     rw[List.tail_append_of_ne_nil hc.1]at hx;rcases List.mem_append.mp hx with hx|hx
     ·exact g3 x hx
     ·rw[List.mem_singleton.mp hx];exact hc.2⟩) d hd
    simpa using this
   ·rw[if_neg hc]at hd;rcases List.mem_append.mp hd with hd|hd
    ·by_cases sL:cur= []
     ·subst sL;simp[xk]at hd
     ·exact em (Or.inr (Classical.byContradiction fun e=>hc ⟨sL,e⟩)) hd
    ·have:=ih (pre++cur) [b] (fun e=>by simp at e) (fun _=>⟨by
      by_cases sL:cur= []
      ·subst sL;rw[List.append_nil];exact(h0 rfl).at _
      ·exact aFs fx _ _ (Classical.byContradiction fun e=>hc ⟨sL,e⟩),fun x hx=>by rw[List.mem_singleton.mp hx];exact hb,fun x hx=>by simp at hx⟩) d hd
     simpa using this
  ·rw[if_neg hb]at hd;(have hb':kj b=false:=by simpa using hb);rcases List.mem_append.mp hd with hd|hd
   ·exact em (Or.inl hb') hd
   ·have:=ih (pre++cur++ [b]) [] (fun _=>aFu fx _ b hb') (fun e=>absurd rfl e) d hd;simpa using this
theorem NT(fx:List Int)(bx:List ai): ∀d ∈ mT fx [] [] bx,sB fx bx d.1 d.2.1 d.2.2:=by
 have:=ayc fx bx [] [] (fun _=>aFt fx) (fun e=>absurd rfl e);simpa using this
theorem ald(fx:List Int): ∀(R cur:List ai),cur≠ []→(∀b ∈ R,kj b=true)→(∀b ∈ R,b.f0 ∉ fx)→fR fx cur R= [j5 (cur++R)]
 | [],cur,hc,_,_=>by simp only[fR,fY];rw[if_neg hc,List.append_nil]
 |b::R,cur,hc,h1,h2=>by
  simp only[fR];rw[if_pos (h1 b (by simp)),if_pos ⟨hc,h2 b (by simp)⟩,ald fx R (cur++ [b]) (by simp) (fun x hx=>h1 x (by simp[hx])) (fun x hx=>h2 x (by simp[hx]))];simp
theorem aFl{fx:List Int}{bx A R B:List ai}(h:sB fx bx A R B):iK fx R= [j5 R]:=by
 have h1:=h.ne;have h2:=h.opn;have h3:=h.free;cases R with
 |nil=>exact absurd rfl h1
 |cons r R=>
  unfold iK;simp only[fR];rw[if_pos (h2 r (by simp)),if_neg (fun c=>c.1 rfl),ald fx R [r] (by simp) (fun x hx=>h2 x (by simp[hx])) (fun x hx=>h3 x hx)];rfl
theorem afu{fx:List Int}{bx A R B:List ai}(h:sB fx bx A R B)(N:List ai)(hN:N≠ [])(hs:gx N=gx R∨Cut fx N):iK fx (A++N++B)=iK fx A++iK fx N++iK fx B:=by
 unfold iK;cases N with
 |nil=>exact absurd rfl hN
 |cons n N=>
  have h1:fR fx [] (A++(n::N))=fR fx [] A++fR fx [] (n::N):=by
   rcases hs with hs|hs
   ·exact h.pre n N hs
   ·exact EN fx (n::N) hs A []
  rw[EN fx B h.post,h1]
theorem aqO{fx:List Int}{bx A R B:List ai}(h:sB fx bx A R B):iK fx bx=iK fx A++ [j5 R]++iK fx B:=by
 rw[←h.all,afu h R h.ne (Or.inl rfl),aFl h]
theorem Og(fx:List Int): ∀(bs cur:List ai) (lo hi:Int),jl lo bs hi→(cur≠ []→gx cur<lo)→(fR fx cur bs).Pairwise (fun a b=>a.f1<b.f1)∧ ∀g ∈ fR fx cur bs,(cur= []→lo≤g.f1)∧(cur≠ []→gx cur≤g.f1)
 | [],cur,lo,hi,_,hc=>by
  simp only[fR,fY];split
  ·next e=>exact⟨List.Pairwise.nil,fun g hg=>absurd hg (by simp)⟩
  ·next e=>
   refine⟨by simp,fun g hg=>⟨fun c=>absurd c e,fun _=>?_⟩⟩;rw[List.mem_singleton.mp hg];cases cur with
   |nil=>exact absurd rfl e
   |cons x cur=>exact Int.le_refl _
 |b::bs,cur,lo,hi,ht,hc=>by
  obtain⟨e0,e1,e2⟩:=ht;simp only[fR];have em: ∀(L:List br),L.Pairwise (fun a b=>a.f1<b.f1)→(∀g ∈ L,lo≤g.f1)→(fY cur++L).Pairwise (fun a b=>a.f1<b.f1)∧ ∀g ∈ fY cur++L,(cur= []→lo≤g.f1)∧(cur≠ []→gx cur≤g.f1):=by
   intro L h1 h2;unfold fY;by_cases e:cur= []
   ·rw[if_pos e,List.nil_append];exact⟨h1,fun g hg=>⟨fun _=>h2 g hg,fun c=>absurd e c⟩⟩
   ·have hl:=hc e;(have VX:(j5 cur).f1=gx cur:=by cases cur with|nil=>exact absurd rfl e|cons x cur=>rfl);rw[if_neg e];refine⟨List.pairwise_append.mpr ⟨by simp,h1,fun a ha b hb=>?_⟩,fun g hg=>⟨fun c=>absurd c e,fun _=>?_⟩⟩
    ·rw[List.mem_singleton.mp ha,VX];have:=h2 b hb;omega
    ·rcases List.mem_append.mp hg with hg|hg
     ·rw[List.mem_singleton.mp hg,VX];exact Int.le_refl _
     ·have:=h2 g hg;omega
  split
  ·split
   ·next h=>
    have ih:=Og fx bs (cur++ [b]) _ hi e2 (fun _=>by rw[aea h.1];have:=hc h.1;omega);refine⟨ih.1,fun g hg=>⟨fun c=>absurd c h.1,fun _=>?_⟩⟩;have:=(ih.2 g hg).2 (by simp)
    rwa [aea h.1]at this
   ·have ih:=Og fx bs [b] _ hi e2 (fun _=>by show b.f0<_;omega);exact em _ ih.1 (fun g hg=>by have:=(ih.2 g hg).2 (by simp);show lo≤g.f1;have h2:gx [b]=b.f0:=rfl;omega)
  ·have ih:=Og fx bs [] _ hi e2 (fun e=>absurd rfl e);exact em _ ih.1 (fun g hg=>by have:=(ih.2 g hg).1 rfl;omega)
def oK(lo sz:Int)(N bx:List ai):List ai:=bx.flatMap (fun b=>(if b.f0=lo then N else[])++(if b.f0<lo∨lo+sz≤b.f0 then[b]else[]))
theorem abJ(lo sz:Int)(N:List ai): ∀(l:List ai),(∀b ∈ l,b.f0≠lo∧(b.f0<lo∨lo+sz≤b.f0))→oK lo sz N l=l
 | [],_=>rfl
 |b::l,h=>by
  have h1:=h b (by simp);have ih:=abJ lo sz N l (fun x hx=>h x (by simp[hx]));unfold oK at ih⊢;rw[List.flatMap_cons,ih,if_neg h1.1,if_pos h1.2];rfl
theorem akZ(lo sz:Int)(N:List ai): ∀(l:List ai),(∀b ∈ l,lo<b.f0∧b.f0<lo+sz)→oK lo sz N l= []
 | [],_=>rfl
 |b::l,h=>by
  have h1:=h b (by simp);have ih:=akZ lo sz N l (fun x hx=>h x (by simp[hx]));unfold oK at ih⊢;rw[List.flatMap_cons,ih,if_neg (by omega),if_neg (by omega)];rfl
theorem azg{A R B:List ai}{lo hi:Int}(h:jl lo (A++R++B) hi)(hR:R≠ [])(N:List ai):oK (gx R) (eP R) N (A++R++B)=A++N++B:=by
 rw[DP,DP]at h;obtain⟨⟨hA,hM⟩,hB⟩:=h;rw[xG]at hB;cases R with
 |nil=>exact absurd rfl hR
 |cons r R=>
  have er:gx (r::R)=r.f0:=rfl;obtain⟨m0,m1,m2⟩:=hM;have s:=uc _ _ _ m2;unfold oK;rw[List.flatMap_append,List.flatMap_append];have a1:=abJ (gx (r::R)) (eP (r::R)) N A (fun b hb=>by have:=DQ _ _ _ hA b hb;rw[er];omega);have a2:=abJ (gx (r::R)) (eP (r::R)) N B (fun b hb=>by have:=DQ _ _ _ hB b hb;rw[er,qq]at*;omega);have a3:=akZ (gx (r::R)) (eP (r::R)) N R (fun b hb=>by have:=DQ _ _ _ m2 b hb;rw[er,qq];omega);unfold oK at a1 a2 a3;rw[a1,a2,List.flatMap_cons,a3,if_pos er.symm,if_neg (by rw[er,qq];have:=uc _ _ _ m2;omega)];simp
def mF(ps:List Int):List ai→Prop
 | []=>True
 |b::bs=>(0≤b.f2∧b.f2≤999)∧ ¬(0<b.f2∧b.f2 ∈ ps)∧mF (b.f2::ps) bs
theorem TR: ∀(bs:List ai) (low:Int) (ps:List Int) (e:Int),0≤low→low≤24→(oF bs low ps=some e↔jl low bs e∧e≤24∧mF ps bs)
 | [],low,ps,e,h0,h=>by
  simp only[oF,jl,mF,Option.some.injEq];constructor
  ·rintro rfl;exact⟨rfl,h,trivial⟩
  ·rintro⟨h,_⟩;exact h
 |b::bs,low,ps,e,hn,h=>by
  simp only[oF,jl,mF];constructor
  ·intro hs;split at hs
   ·next hc=>
    obtain⟨h1,h2,h3⟩:=(TR bs _ _ e (by omega) hc.2.2.2.2).mp hs;exact⟨⟨hc.1,hc.2.1.1,h1⟩,h2,hc.2.2.1,hc.2.2.2.1,h3⟩
   ·cases hs
  ·rintro⟨⟨h0,h1,h2⟩,h3,h4,h5,h6⟩;have hs:=uc _ _ _ h2;rw[if_pos ⟨h0,⟨h1,by omega⟩,h4,h5,by omega⟩];exact(TR bs _ _ e (by omega) (by omega)).mpr ⟨h2,h3,h6⟩
structure jI(h:Int)(fx:List Int)(bx:List ai):Prop where
 hi:1≤h∧h≤24
 nc:jl 0 bx h
 par:mF [] bx
 fix:ny h none fx=true
 low: ∀f ∈ fx,∃b ∈ bx,b.f0=f
theorem nO(h:Int)(fx:List Int)(bx:List ai):hO h fx bx=true↔jI h fx bx:=by
 rw[←aky];constructor
 ·intro e;simp only[Bool.and_eq_true,decide_eq_true_eq]at e;obtain⟨e1,e2,e3,e4⟩:=e;cases hS:oF bx 0 []with
  |none=>rw[hS]at e2;simp[vL]at e2
  |some x=>
   rw[hS]at e2;simp only[vL,Bool.and_eq_true,decide_eq_true_eq]at e2;obtain⟨_,rfl⟩:=e2;obtain⟨t1,t2,t3⟩:=(TR bx 0 [] x (by omega) (by omega)).mp hS;refine⟨e1,t1,t3,e3,fun f hf=>?_⟩;have:=List.all_eq_true.mp e4 f hf;simp only[decide_eq_true_eq,List.mem_map]at this;exact this
 ·intro v;have hS:=(TR bx 0 [] h (by omega) (by omega)).mpr ⟨v.nc,v.hi.2,v.par⟩;have hne:bx≠ []:=by
   intro e;have:=v.nc;rw[e]at this;simp only[jl]at this;have:=v.hi;omega
  simp only[Bool.and_eq_true,decide_eq_true_eq];refine⟨v.hi,?_,v.fix,?_⟩
  ·rw[hS];simp[vL,hne]
  ·exact List.all_eq_true.mpr (fun f hf=>by simp only[decide_eq_true_eq,List.mem_map];exact v.low f hf)
theorem jI.len{h:Int}{fx:List Int}{bx:List ai}(v:jI h fx bx):bx.length≤24:=by
 have:=uc _ _ _ v.nc;have:=v.hi;omega
theorem jI.mem{h:Int}{fx:List Int}{bx:List ai}(v:jI h fx bx){b:ai}(hb:b ∈ bx):0≤b.f0∧1≤b.f1∧b.f0+b.f1≤24:=by
 have:=DQ _ _ _ v.nc b hb;have:=v.hi;omega
theorem aeR: ∀(bs:List ai) (ps:List Int),mF ps bs↔(∀b ∈ bs,0≤b.f2∧b.f2≤999)∧(∀b ∈ bs,0<b.f2→b.f2 ∉ ps)∧bs.Pairwise (fun a b=>0<b.f2→a.f2≠b.f2)
 | [],ps=>by simp[mF]
 |b::bs,ps=>by
  simp only[mF];rw[aeR bs];constructor
  ·rintro⟨h1,h2,h3,h4,h5⟩;refine⟨fun x hx=>?_,fun x hx h0=>?_,List.pairwise_cons.mpr ⟨fun x hx h0 e=>h4 x hx h0 (by rw[←e];simp),h5⟩⟩
   ·rcases List.mem_cons.mp hx with rfl|hx
    ·exact h1
    ·exact h3 x hx
   ·rcases List.mem_cons.mp hx with rfl|hx
    ·exact fun hm=>h2 ⟨h0,hm⟩
    ·exact fun hm=>h4 x hx h0 (by simp[hm])
  ·rintro⟨h1,h2,h3⟩;obtain⟨h4,h5⟩:=List.pairwise_cons.mp h3;refine⟨h1 b (by simp),fun h=>h2 b (by simp) h.1 h.2,fun x hx=>h1 x (by simp[hx]),fun x hx h0 hm=>?_,h5⟩;rcases List.mem_cons.mp hm with e|hm
   ·exact h4 x hx h0 e.symm
   ·exact h2 x (by simp[hx]) h0 hm
def rV(size:Int):Option br→List br→Option br
 |best,[]=>best
 |best,g::l=>if size≤g.f2∧(∀b ∈ best,g.f2<b.f2)then rV size (some g) l else rV size best l
def lq(size:Int)(l:List br):Option br:=if size<1 then none else rV size none l
theorem ad9(size:Int): ∀(l:List br) (b:br),size≤b.f2→
  (rV size (some b) l=some b∧ ∀x ∈ l,x.f2<size∨b.f2≤x.f2)∨ ∃l1 g l2,l=l1++g::l2∧rV size (some b) l=some g∧size≤g.f2∧g.f2<b.f2∧(∀x ∈ l1,x.f2<size∨g.f2<x.f2)∧ ∀x ∈ l2,x.f2<size∨g.f2≤x.f2
 | [],b,hb=>Or.inl ⟨rfl,by simp⟩
 |y::l,b,hb=>by
  simp only[rV,Option.mem_def,Option.some.injEq,forall_eq'];by_cases c:size≤y.f2∧y.f2<b.f2
  ·rw[if_pos c];right;rcases ad9 size l y c.1 with⟨h1,h2⟩|⟨l1,g,l2,h0,h1,h2,h3,h4,h5⟩
   ·exact⟨[],y,l,rfl,h1,c.1,c.2,by simp,h2⟩
   ·exact⟨y::l1,g,l2,by rw[h0];rfl,h1,h2,by omega,fun x hx=>by
     rcases List.mem_cons.mp hx with rfl|hx
     ·exact Or.inr h3
     ·exact h4 x hx,h5⟩
  ·rw[if_neg c];rcases ad9 size l b hb with⟨h1,h2⟩|⟨l1,g,l2,h0,h1,h2,h3,h4,h5⟩
   ·left;exact⟨h1,fun x hx=>by
     rcases List.mem_cons.mp hx with rfl|hx
     ·omega
     ·exact h2 x hx⟩
   ·right;exact⟨y::l1,g,l2,by rw[h0];rfl,h1,h2,h3,fun x hx=>by
     rcases List.mem_cons.mp hx with rfl|hx
     ·omega
     ·exact h4 x hx,h5⟩
theorem W6(size:Int): ∀(l:List br),
  (rV size none l=none∧ ∀x ∈ l,x.f2<size)∨ ∃l1 g l2,l=l1++g::l2∧rV size none l=some g∧size≤g.f2∧(∀x ∈ l1,x.f2<size∨g.f2<x.f2)∧ ∀x ∈ l2,x.f2<size∨g.f2≤x.f2
 | []=>Or.inl ⟨rfl,by simp⟩
 |y::l=>by
  simp only[rV];by_cases c:size≤y.f2
  ·rw[if_pos ⟨c,fun b hb=>by cases hb⟩];right;rcases ad9 size l y c with⟨h1,h2⟩|⟨l1,g,l2,h0,h1,h2,h3,h4,h5⟩
   ·exact⟨[],y,l,rfl,h1,c,by simp,h2⟩
   ·exact⟨y::l1,g,l2,by rw[h0];rfl,h1,h2,fun x hx=>by
     rcases List.mem_cons.mp hx with rfl|hx
     ·exact Or.inr h3
     ·exact h4 x hx,h5⟩
  ·rw[if_neg (fun h=>c h.1)];rcases W6 size l with⟨h1,h2⟩|⟨l1,g,l2,h0,h1,h2,h4,h5⟩
   ·left;exact⟨h1,fun x hx=>by
     rcases List.mem_cons.mp hx with rfl|hx
     ·omega
     ·exact h2 x hx⟩
   ·right;exact⟨y::l1,g,l2,by rw[h0];rfl,h1,h2,fun x hx=>by
     rcases List.mem_cons.mp hx with rfl|hx
     ·omega
     ·exact h4 x hx,h5⟩
theorem W5{size:Int}{l:List br}{g:br}(h:lq size l=some g):g ∈ l∧size≤g.f2∧1≤size∧ ∀x ∈ l,size≤x.f2→g.f2≤x.f2:=by
 unfold lq at h;split at h
 ·cases h
 ·rcases W6 size l with⟨h1,h2⟩|⟨l1,y,l2,h0,h1,h2,h4,h5⟩
  ·rw[h1]at h;cases h
  ·rw[h1]at h;obtain rfl:=Option.some.inj h;refine⟨by rw[h0];simp,h2,by omega,fun x hx hs=>?_⟩;rw[h0]at hx;rcases List.mem_append.mp hx with hx|hx
   ·have:=h4 x hx;omega
   ·rcases List.mem_cons.mp hx with rfl|hx
    ·exact Int.le_refl _
    ·have:=h5 x hx;omega
theorem axZ(l:List Int)(hl:l.length≤4398046511103):Ev (fun _=>Fy.f l) l:=Ev.const (by
 unfold Fy.f;simp only[Option.bind_some,List.length_nil,List.nil_append,Nat.zero_add];rw[if_pos (by omega)])
theorem axY(l:List ai)(hl:l.length≤4398046511103):Ev (fun _=>Fo.f l) l:=Ev.const (by
 unfold Fo.f;simp only[Option.bind_some,List.length_nil,List.nil_append,Nat.zero_add];rw[if_pos (by omega)])
theorem aa3(h:Int)(fx:List Int)(bx:List ai)(hf:fx.length≤4398046511103)(hb:bx.length≤4398046511103):Ev (fun _=>oV.f h fx bx) (h,fx,bx):=by
 unfold oV.f;exact Ev.bind (axZ fx hf) (Ev.bind (axY bx hb) (Ev.ret _))
theorem Uz(h:Int)(fx:List Int)(bx:List ai)(hf:fx.length≤4398046511103)(hb:bx.length≤4398046511103):Ev (fun _=>m5.f h fx bx) (h,fx,bx):=Ev.const (by
 unfold m5.f;simp only[Option.bind_some,List.length_nil,List.nil_append,Nat.zero_add];rw[if_pos (by omega),if_pos (by omega)])
theorem apV: ∀(l:List ai) (p i:Int),0≤i→(eO l p i= -1∧ ∀b ∈ l,b.f2≠p)∨ ∃l1 b l2,l=l1++b::l2∧b.f2=p∧(∀x ∈ l1,x.f2≠p)∧eO l p i=i+l1.length
 | [],p,i,_=>Or.inl ⟨rfl,by simp⟩
 |b::l,p,i,hi=>by
  simp only[eO];by_cases c:b.f2=p
  ·rw[if_pos c];exact Or.inr ⟨[],b,l,rfl,c,by simp,by simp⟩
  ·rw[if_neg c];rcases apV l p (i+1) (by omega)with⟨h1,h2⟩|⟨l1,x,l2,h1,h2,h3,h4⟩
   ·exact Or.inl ⟨h1,fun y hy=>by
     rcases List.mem_cons.mp hy with rfl|hy
     ·exact c
     ·exact h2 y hy⟩
   ·refine Or.inr ⟨b::l1,x,l2,by rw[h1];rfl,h2,fun y hy=>?_,by rw[h4,List.length_cons];omega⟩;rcases List.mem_cons.mp hy with rfl|hy
    ·exact c
    ·exact h3 y hy
theorem Ip(l:List ai)(p:Int):(eO l p 0= -1∧ ∀b ∈ l,b.f2≠p)∨ ∃l1 b l2,l=l1++b::l2∧b.f2=p∧(∀x ∈ l1,x.f2≠p)∧eO l p 0=l1.length:=by
 rcases apV l p 0 (Int.le_refl _)with h|⟨l1,b,l2,h1,h2,h3,h4⟩
 ·exact Or.inl h
 ·exact Or.inr ⟨l1,b,l2,h1,h2,h3,by rw[h4];omega⟩
def jx(l:List ai)(p:Int):Int:=if 0<p then eO l p 0 else-1
theorem aj1(h:Int)(fx:List Int)(bx:List ai)(hl:bx.length≤1048576)(p:Int): ∀(rest:List ai) (i:Nat),bx.drop i=rest→i≤bx.length→Ev (fun k=>kF.l0 k p (i:Int) h fx bx) (if 0<p then eO rest p (i:Int)else-1)
 | [],i,hd,hi=>by
  have he:=l9 hd hi;refine Ev.succ ?_;simp only[kF.l0];refine Ev.neg (by omega) ?_;refine Ev.to (Ev.ret _) ?_;simp[eO]
 |b::rest,i,hd,hi=>by
  obtain⟨h1,h2,h3⟩:=mb jf hd;have er:ah bx (i:Int)=b:=h2;have ih:=aj1 h fx bx hl p rest (i+1) h3 (by omega);refine Ev.succ ?_;simp only[kF.l0,er];refine Ev.pos (by omega) ?_;refine Ev.pos (by omega) ?_;rw[jw i (by omega)];by_cases c:b.f2=p
  ·refine Ev.pos c ?_;by_cases d:p>0
   ·refine Ev.pos d (Ev.to (Ev.ret _) ?_);rw[if_pos d];simp only[eO];rw[if_pos c]
   ·refine Ev.neg d (Ev.to ih ?_);rw[if_neg d,if_neg d]
  ·refine Ev.neg c (Ev.to ih ?_);simp only[eO];rw[if_neg c];rfl
theorem TS(h:Int)(fx:List Int)(bx:List ai)(hl:bx.length≤1048576)(p:Int):Ev (fun k=>kF.f k h fx bx p) (jx bx p):=by
 unfold kF.f;exact aj1 h fx bx hl p bx 0 rfl (by omega)
def Ad(h:Int)(fx:List Int)(bx:List ai)(p:Int):List ai×Bool:=
 if hO h fx bx=true∧0<p∧0≤eO bx p 0∧(ah bx (eO bx p 0)).f3=false then(bx.set (eO bx p 0).toNat ⟨(ah bx (eO bx p 0)).f0,(ah bx (eO bx p 0)).f1,0,(ah bx (eO bx p 0)).f3⟩,true)else(bx,false)
theorem ad5(l:List ai)(p:Int):eO l p 0<l.length:=by
 rcases Ip l p with⟨h,_⟩|⟨l1,b,l2,h1,_,_,h4⟩
 ·rw[h];omega
 ·rw[h4,h1];simp;omega
theorem DO{h:Int}{fx:List Int}{bx:List ai}{p:Int}(c: ¬(hO h fx bx=true∧0<p∧0≤eO bx p 0∧(ah bx (eO bx p 0)).f3=false)):Ad h fx bx p=(bx,false):=by
 unfold Ad;rw[if_neg c]
theorem XP{h:Int}{fx:List Int}{bx:List ai}{p:Int}(c:hO h fx bx=true∧0<p∧0≤eO bx p 0∧(ah bx (eO bx p 0)).f3=false):Ad h fx bx p=(bx.set (eO bx p 0).toNat ⟨(ah bx (eO bx p 0)).f0,(ah bx (eO bx p 0)).f1,0,(ah bx (eO bx p 0)).f3⟩,true):=by
 unfold Ad;rw[if_pos c]
theorem aF7(h:Int)(fx:List Int)(bx:List ai)(hf:fx.length≤1048576)(hb:bx.length≤1048576)(p:Int):Ev (fun _=>Ir.f h fx bx p) (h,fx,Ad h fx bx p):=by
 unfold Ir.f;refine Ev.bind (aa3 h fx bx (by omega) (by omega)) ?_;refine Ev.bind (Ev.const rfl) ?_;refine Ev.bind (Ev.const rfl) ?_;dsimp only;have hi:=ad5 bx p;by_cases c1:hO h fx bx=true
 ·refine Ev.pos c1 ?_;by_cases c2:p<1
  ·rw[DO (by omega)];exact Ev.pos c2 (Ev.ret _)
  ·refine Ev.neg c2 ?_;by_cases c3:eO bx p 0<0
   ·rw[DO (by omega)];exact Ev.pos c3 (Ev.ret _)
   ·refine Ev.neg c3 (Ev.pos (by omega) (Ev.pos hi ?_));cases c4:(ah bx (eO bx p 0)).f3 with
    |true=>
     rw[DO (fun e=>by rw[c4]at e;simp at e)];exact Ev.pos rfl (Ev.ret _)
    |false=>
     rw[XP ⟨c1,by omega,by omega,c4⟩,c4];exact Ev.neg (by simp) (Ev.pos hi (Ev.ret _))
 ·rw[DO (fun e=>c1 e.1)];exact Ev.neg c1 (Ev.ret _)
theorem aF6(h:Int)(fx:List Int)(bx:List ai)(hf:fx.length≤1048576)(hb:bx.length≤1048576)(p:Int):Ev (fun k=>LJ.f k h fx bx p) (h,fx,Ad h fx bx p):=by
 unfold LJ.f;refine Ev.bind (Uz h fx bx (by omega) (by omega)) ?_;refine Ev.bind (TS h fx bx hb p) ?_;refine Ev.bind (KR h fx (by omega) bx (by omega)) ?_;dsimp only;have hi:=ad5 bx p;by_cases c1:hO h fx bx=true
 ·refine Ev.pos c1 ?_;by_cases c2:p<1
  ·rw[DO (by omega)];(have e:jx bx p= -1:=by unfold jx;rw[if_neg (by omega)]);rw[e];exact Ev.pos (by omega) (Ev.ret _)
  ·(have e:jx bx p=eO bx p 0:=by unfold jx;rw[if_pos (by omega)]);rw[e];by_cases c3:eO bx p 0<0
   ·rw[DO (by omega)];exact Ev.pos c3 (Ev.ret _)
   ·refine Ev.neg c3 (Ev.pos (by omega) (Ev.pos hi ?_));cases c4:(ah bx (eO bx p 0)).f3 with
    |true=>
     rw[DO (fun e=>by rw[c4]at e;simp at e)];exact Ev.pos rfl (Ev.ret _)
    |false=>
     rw[XP ⟨c1,by omega,by omega,c4⟩,c4];exact Ev.neg (by simp) (Ev.pos hi (Ev.ret _))
 ·rw[DO (fun e=>c1 e.1)];exact Ev.neg c1 (Ev.ret _)
def DG(unit:Int)(j:Bool):List ai→List ai×Bool
 | []=>([],false)
 |b::l=>if b.f0≤unit∧unit<b.f0+b.f1 then(⟨b.f0,b.f1,b.f2,j⟩::l,true)else(b::(DG unit j l).1,(DG unit j l).2)
def Fp(h:Int)(fx:List Int)(bx:List ai)(unit:Int)(j:Bool):List ai×Bool:=if hO h fx bx=true then DG unit j bx else(bx,false)
theorem aFr{α:Type}(l:List α)(i:Nat)(h:i<l.length)(v:α):l.set i v=l.take i++v::l.drop (i+1):=by
 rw[List.set_eq_take_append_cons_drop,if_pos h]
theorem aGa{α:Type}(l:List α)(i:Nat)(h:i<l.length)(d:α):l.take i++ [l.getD i d]=l.take (i+1):=by
 rw[List.take_add_one,List.getD_eq_getElem?_getD,List.getElem?_eq_getElem h];rfl
theorem ap3(h:Int)(fx:List Int)(hx:fx.length≤1048576)(bx:List ai)(hl:bx.length≤24)(hm: ∀b ∈ bx,0≤b.f0∧1≤b.f1∧b.f0+b.f1≤24)(hc:hO h fx bx=true)(unit:Int)(j:Bool):
  ∀(rest:List ai) (i:Nat),bx.drop i=rest→i≤bx.length→Ev (fun k=>mj.l0 k unit j (i:Int) h fx bx h fx bx) (h,fx,bx.take i++(DG unit j rest).1,(DG unit j rest).2)
 | [],i,hd,hi=>by
  have he:=l9 hd hi;refine Ev.succ ?_;simp only[mj.l0];refine Ev.neg (by omega) ?_;refine Ev.succ ?_;simp only[mj.j1];refine Ev.neg (by simp) ?_;refine Ev.to (Ev.ret _) ?_;subst he;simp[DG]
 |b::rest,i,hd,hi=>by
  obtain⟨h1,h2,h3⟩:=mb jf hd;have er:ah bx (i:Int)=b:=h2;(have hb:b ∈ bx:=by rw[←h2,qe _ h1];exact List.getElem_mem _);have KZ:=hm b hb;have ih:=ap3 h fx hx bx hl hm hc unit j rest (i+1) h3 (by omega);refine Ev.succ ?_;simp only[mj.l0];refine Ev.pos (by omega) ?_;refine Ev.bind (KR h fx (by omega) bx (by omega)) ?_;rw[hc];refine Ev.succ ?_;simp only[mj.j1,er,DG];rw[wid (b.f0+b.f1) (by omega) (by omega),wid (b.f0+b.f1-1) (by omega) (by omega),jw i (by omega)];refine Ev.pos (by trivial) (Ev.pos (by omega) (Ev.pos (by omega) ?_));refine Ev.bind (Ev.const (Iv _ _ _)) ?_;by_cases c:b.f0≤unit∧unit≤b.f0+b.f1-1
  ·refine Ev.pos (decide_eq_true c) (Ev.pos (by omega) (Ev.to (Ev.ret _) ?_));rw[if_pos (by omega)];show(h,fx,bx.set (i:Int).toNat _,true)=_;rw[Int.toNat_natCast,aFr bx i h1,h3]
  ·refine Ev.neg (by simpa using c) (Ev.to ih ?_);rw[if_neg (by omega),←aGa bx i h1 jf,h2];simp
theorem aEp(h:Int)(fx:List Int)(bx:List ai)(hf:fx.length≤1048576)(hb:bx.length≤1048576)(unit:Int)(j:Bool):Ev (fun k=>mj.f k h fx bx unit j) (h,fx,Fp h fx bx unit j):=by
 unfold mj.f Fp;refine Ev.bind (Uz h fx bx (by omega) (by omega)) ?_;dsimp only;by_cases c1:hO h fx bx=true
 ·rw[if_pos c1];have v:=(nO h fx bx).mp c1;exact(ap3 h fx hf bx v.len (fun b hb=>v.mem hb) c1 unit j bx 0 rfl (by omega)).to (by simp)
 ·rw[if_neg c1];(have c2:hO h fx bx=false:=by simpa using c1);refine Ev.succ ?_;simp only[mj.l0];have fin:Ev (fun k=>mj.j1 k unit j 0 false h fx bx h fx bx) (h,fx,bx,false):=by
   refine Ev.succ ?_;simp only[mj.j1];exact Ev.neg (by simp) (Ev.ret _)
  by_cases c:(0:Int)<bx.length
  ·refine Ev.pos c ?_;refine Ev.bind (KR h fx (by omega) bx (by omega)) ?_;rw[c2];exact fin
  ·refine Ev.neg c ?_;exact fin
def Small(cs:List aT):Prop:=cs.length≤1048576∧ ∀c ∈ cs,c.f1.length≤1048576∧c.f2.length≤1048576
def UA(c d:aT):Bool:=d.f2.all (fun b=>decide (jx c.f2 b.f2<0))
def Ey:List aT→List aT→Bool
 |_,[]=>true
 |pre,c::rest=>hO c.f0 c.f1 c.f2 &&(pre.all (fun p=>UA p c)&& Ey (pre++ [c]) rest)
theorem ajy(cs:List aT)(hs:Small cs)(i j:Nat)(hi:i<cs.length)(hj:j<i)(r:Bool)(hr:Ev (fun k=>fk.l1 k cs (i:Int) ((j+1:Nat):Int)) r):
  ∀(rest:List ai) (n:Nat),(cs.getD i jW).f2.drop n=rest→n≤(cs.getD i jW).f2.length→Ev (fun k=>fk.l2 k cs (i:Int) (j:Int) (n:Int)) (rest.all (fun b=>decide (jx (cs.getD j jW).f2 b.f2<0))&& r)
 | [],n,hd,hn=>by
  have he:=l9 hd hn;have er:av cs (i:Int)=cs.getD i jW:=rfl;have hl:=hs.1;refine Ev.succ ?_;simp only[fk.l2,er];refine Ev.pos (by omega) (Ev.pos (by omega) (Ev.neg (by omega) ?_));rw[jw j (by omega)];exact hr
 |b::rest,n,hd,hn=>by
  obtain⟨h1,h2,h3⟩:=mb jf hd;have er:av cs (i:Int)=cs.getD i jW:=rfl;have Oa:av cs (j:Int)=cs.getD j jW:=rfl;have eb:ah (cs.getD i jW).f2 (n:Int)=b:=h2;have hl:=hs.1;(have hmem:cs.getD i jW ∈ cs:=by rw[qe _ hi];exact List.getElem_mem _);(have aCO:cs.getD j jW ∈ cs:=by rw[qe _ (show j<cs.length by omega)];exact List.getElem_mem _);have Hz:=(hs.2 _ hmem).2;have hl3:=(hs.2 _ aCO).2;have ih:=ajy cs hs i j hi hj r hr rest (n+1) h3 (by omega);refine Ev.succ ?_;simp only[fk.l2,er,Oa,eb,List.all_cons];refine Ev.pos (by omega) (Ev.pos (by omega) (Ev.pos (by omega) (Ev.pos (by omega) (Ev.pos (by omega) (Ev.pos (by omega) ?_)))));refine Ev.bind (TS _ _ _ hl3 _) ?_;rw[jw n (by omega)];by_cases c:jx (cs.getD j jW).f2 b.f2<0
  ·refine Ev.neg (by omega) ?_;rw[decide_eq_true c,Bool.true_and];exact ih
  ·refine Ev.pos (by omega) ?_;rw[decide_eq_false c,Bool.false_and,Bool.false_and];exact Ev.ret _
theorem ajx(cs:List aT)(hs:Small cs)(i:Nat)(hi:i<cs.length)(r:Bool)(hr:Ev (fun k=>fk.l0 k cs ((i+1:Nat):Int)) r):
  ∀(d j:Nat),j+d=i→Ev (fun k=>fk.l1 k cs (i:Int) (j:Int)) (((cs.take i).drop j).all (fun p=>UA p (cs.getD i jW))&& r)
 |0,j,hj=>by
  have hl:=hs.1;refine Ev.succ ?_;simp only[fk.l1];refine Ev.neg (by omega) ?_;rw[jw i (by omega),List.drop_eq_nil_of_le (by rw[List.length_take];omega),List.all_nil,Bool.true_and];exact hr
 |d+1,j,hj=>by
  have hl:=hs.1;have ih:=ajx cs hs i hi r hr d (j+1) (by omega);have h2:=ajy cs hs i j hi (by omega) _ ih (cs.getD i jW).f2 0 rfl (by omega);refine Ev.succ ?_;simp only[fk.l1];refine Ev.pos (by omega) (h2.to ?_);have e:(cs.take i).drop j=cs.getD j jW::(cs.take i).drop (j+1):=by
   (have hj2:j<(cs.take i).length:=by rw[List.length_take];omega);rw[drop_cons _ jW j hj2,List.getD_eq_getElem?_getD,List.getElem?_take_of_lt (by omega),←List.getD_eq_getElem?_getD]
  rw[e,List.all_cons,Bool.and_assoc];rfl
theorem ajw(cs:List aT)(hs:Small cs): ∀(rest:List aT) (i:Nat),cs.drop i=rest→i≤cs.length→Ev (fun k=>fk.l0 k cs (i:Int)) (Ey (cs.take i) rest)
 | [],i,hd,hi=>by
  have he:=l9 hd hi;refine Ev.succ ?_;simp only[fk.l0,Ey];exact Ev.neg (by omega) (Ev.ret _)
 |c::rest,i,hd,hi=>by
  obtain⟨h1,h2,h3⟩:=mb jW hd;have er:av cs (i:Int)=c:=h2;(have hc:c ∈ cs:=by rw[←h2,qe _ h1];exact List.getElem_mem _);have hcs:=hs.2 c hc;have ih:=ajw cs hs rest (i+1) h3 (by omega);have hi1:=ajx cs hs i h1 _ ih i 0 (by omega);refine Ev.succ ?_;simp only[fk.l0,er,Ey];refine Ev.pos (by omega) (Ev.pos (by omega) (Ev.bind (KR _ _ (by omega) _ (by omega)) ?_));have et:cs.take (i+1)=cs.take i++ [c]:=by
   rw[List.take_add_one,←h2,List.getD_eq_getElem?_getD,List.getElem?_eq_getElem h1];rfl
  by_cases d:hO c.f0 c.f1 c.f2=true
  ·refine Ev.pos d (hi1.to ?_);rw[d,Bool.true_and,List.drop_zero,h2,et]
  ·refine Ev.neg d ((Ev.ret _).to ?_);(have:hO c.f0 c.f1 c.f2=false:=by simpa using d);rw[this,Bool.false_and]
def KS(c d:aT):Prop:= ∀a ∈ c.f2,∀b ∈ d.f2,0<b.f2→a.f2≠b.f2
theorem aal(l:List ai)(p:Int):jx l p<0↔(0<p→ ∀a ∈ l,a.f2≠p):=by
 unfold jx;by_cases h:0<p
 ·rw[if_pos h];rcases Ip l p with⟨h1,h2⟩|⟨l1,b,l2,h1,h2,h3,h4⟩
  ·rw[h1];exact⟨fun _ _=>h2,fun _=>by omega⟩
  ·rw[h4];constructor
   ·intro c;omega
   ·intro c;exact absurd h2 (c h b (by rw[h1];simp))
 ·rw[if_neg h];exact⟨fun _ c=>absurd c h,fun _=>by omega⟩
theorem akG(c d:aT):UA c d=true↔KS c d:=by
 unfold UA KS;rw[List.all_eq_true];constructor
 ·intro h a ha b hb h0;have:=of_decide_eq_true (h b hb);exact(aal _ _).mp this h0 a ha
 ·intro h b hb;exact decide_eq_true ((aal _ _).mpr (fun h0 a ha=>h a ha b hb h0))
theorem ajK: ∀(rest pre:List aT),Ey pre rest=true↔(∀c ∈ rest,hO c.f0 c.f1 c.f2=true)∧(∀p ∈ pre,∀c ∈ rest,KS p c)∧rest.Pairwise KS
 | [],pre=>by simp[Ey]
 |c::rest,pre=>by
  simp only[Ey,Bool.and_eq_true];rw[ajK rest,List.all_eq_true];constructor
  ·rintro⟨h1,h2,h3,h4,h5⟩;refine⟨fun d hd=>?_,fun p hp d hd=>?_,List.pairwise_cons.mpr ⟨fun d hd=>h4 c (by simp) d hd,h5⟩⟩
   ·rcases List.mem_cons.mp hd with rfl|hd
    ·exact h1
    ·exact h3 d hd
   ·rcases List.mem_cons.mp hd with rfl|hd
    ·exact(akG _ _).mp (h2 p hp)
    ·exact h4 p (by simp[hp]) d hd
  ·rintro⟨h1,h2,h3⟩;obtain⟨h4,h5⟩:=List.pairwise_cons.mp h3;refine⟨h1 c (by simp),fun p hp=>(akG _ _).mpr (h2 p hp c (by simp)),fun d hd=>h1 d (by simp[hd]),fun p hp d hd=>?_,h5⟩;rcases List.mem_append.mp hp with hp|hp
   ·exact h2 p hp d (by simp[hd])
   ·rw[List.mem_singleton.mp hp];exact h4 d hd
theorem aqv: ∀(bs:List ai) (ps:List Int),bs.Pairwise (fun a b=>0<b.f2→a.f2≠b.f2)→
  ((∀b ∈ bs,0<b.f2→b.f2 ∉ ps)∧ ∃qs,sN bs ps=some qs∧ ∀x,x ∈ qs↔x ∈ ps∨ ∃b ∈ bs,b.f2=x)∨(¬(∀b ∈ bs,0<b.f2→b.f2 ∉ ps)∧sN bs ps=none)
 | [],ps,_=>Or.inl ⟨by simp,ps,rfl,by simp⟩
 |b::bs,ps,hp=>by
  obtain⟨h1,h2⟩:=List.pairwise_cons.mp hp;simp only[sN];by_cases c:0<b.f2∧b.f2 ∈ ps
  ·rw[if_pos c];exact Or.inr ⟨fun h=>h b (by simp) c.1 c.2,rfl⟩
  ·rw[if_neg c];rcases aqv bs (b.f2::ps) h2 with⟨h3,qs,h4,h5⟩|⟨h3,h4⟩
   ·refine Or.inl ⟨fun x hx h0=>?_,qs,h4,fun x=>?_⟩
    ·rcases List.mem_cons.mp hx with rfl|hx
     ·exact fun h=>c ⟨h0,h⟩
     ·exact fun h=>h3 x hx h0 (by simp[h])
    ·rw[h5 x,List.mem_cons];constructor
     ·rintro((h|h)|⟨y,hy,e⟩)
      ·exact Or.inr ⟨b,by simp,h.symm⟩
      ·exact Or.inl h
      ·exact Or.inr ⟨y,by simp[hy],e⟩
     ·rintro(h|⟨y,hy,e⟩)
      ·exact Or.inl (Or.inr h)
      ·rcases List.mem_cons.mp hy with rfl|hy
       ·exact Or.inl (Or.inl e.symm)
       ·exact Or.inr ⟨y,hy,e⟩
   ·refine Or.inr ⟨fun h=>h3 (fun x hx h0 hm=>?_),h4⟩;rcases List.mem_cons.mp hm with e|hm
    ·exact h1 x hx h0 e.symm
    ·exact h x (by simp[hx]) h0 hm
theorem aaf: ∀(cs:List aT) (ps:List Int),wZ cs ps=true↔(∀c ∈ cs,hO c.f0 c.f1 c.f2=true)∧(∀c ∈ cs,∀b ∈ c.f2,0<b.f2→b.f2 ∉ ps)∧cs.Pairwise KS
 | [],ps=>by simp[wZ]
 |c::cs,ps=>by
  simp only[wZ,Bool.and_eq_true];by_cases hc:hO c.f0 c.f1 c.f2=true
  ·have v:=(nO _ _ _).mp hc;rcases aqv c.f2 ps ((aeR _ _).mp v.par).2.2 with⟨h3,qs,h4,h5⟩|⟨h3,h4⟩
   ·rw[h4];dsimp only;rw[aaf cs qs];constructor
    ·rintro⟨_,g1,g2,g3⟩;refine⟨fun d hd=>?_,fun d hd b hb h0=>?_,List.pairwise_cons.mpr ⟨fun d hd a ha b hb h0 e=>g2 d hd b hb h0 ((h5 _).mpr (Or.inr ⟨a,ha,e⟩)),g3⟩⟩
     ·rcases List.mem_cons.mp hd with rfl|hd
      ·exact hc
      ·exact g1 d hd
     ·rcases List.mem_cons.mp hd with rfl|hd
      ·exact h3 b hb h0
      ·exact fun h=>g2 d hd b hb h0 ((h5 _).mpr (Or.inl h))
    ·rintro⟨g1,g2,g3⟩;obtain⟨g4,g5⟩:=List.pairwise_cons.mp g3;refine⟨hc,fun d hd=>g1 d (by simp[hd]),fun d hd b hb h0 h=>?_,g5⟩;rcases(h5 _).mp h with h|⟨a,ha,e⟩
     ·exact g2 d (by simp[hd]) b hb h0 h
     ·exact g4 d hd a ha b hb h0 e
   ·rw[h4];dsimp only;constructor
    ·rintro⟨_,h⟩;simp at h
    ·rintro⟨_,g2,_⟩;exact absurd (fun b hb h0=>g2 c (by simp) b hb h0) h3
  ·constructor
   ·rintro⟨h,_⟩;exact absurd h hc
   ·rintro⟨h,_⟩;exact absurd (h c (by simp)) hc
structure xY(cs:List aT):Prop where
 len:1≤(cs.length:Int)∧(cs.length:Int)≤6
 col: ∀c ∈ cs,hO c.f0 c.f1 c.f2=true
 aKg:cs.Pairwise KS
theorem CG(cs:List aT):lZ cs=true↔xY cs:=by
 unfold lZ;rw[Bool.and_eq_true,decide_eq_true_iff,aaf];constructor
 ·rintro⟨h1,h2,_,h3⟩;exact⟨h1,h2,h3⟩
 ·rintro⟨h1,h2,h3⟩;exact⟨h1,h2,fun _ _ _ _ _=>by simp,h3⟩
theorem TN(cs:List aT)(hs:Small cs):Ev (fun k=>fk.f k cs) (lZ cs):=by
 unfold fk.f;refine Ev.bind (Ev.const (Iv _ _ _)) ?_;by_cases c:1≤(cs.length:Int)∧(cs.length:Int)≤6
 ·refine Ev.pos (decide_eq_true c) ?_;refine(ajw cs hs cs 0 rfl (by omega)).to ?_;have e:Ey [] cs=wZ cs []:=by
   rw[Bool.eq_iff_iff,ajK,aaf];constructor
   ·rintro⟨h1,_,h3⟩;exact⟨h1,fun _ _ _ _ _=>by simp,h3⟩
   ·rintro⟨h1,_,h3⟩;exact⟨h1,fun p hp=>absurd hp (by simp),h3⟩
  unfold lZ;rw[decide_eq_true c,Bool.true_and,←e];rfl
 ·refine Ev.neg (by simpa using c) ((Ev.ret _).to ?_);unfold lZ;rw[decide_eq_false c,Bool.false_and]
def u7:List aT→Int
 | []=>0
 |c::cs=>1+(c.f1.length:Int)+(c.f2.length:Int)+u7 cs
theorem arV: ∀cs:List aT,0≤u7 cs
 | []=>by simp[u7]
 |c::cs=>by
  have:=arV cs;rw[u7];omega
theorem ame(l:List Int)(hl:l.length≤1048576)(x:Int): ∀(rest:List Int) (i:Nat),l.drop i=rest→i≤l.length→Ev (fun k=>qU.l0 k l x (i:Int)) (decide (x ∈ rest))
 | [],i,hd,hi=>by
  have he:=l9 hd hi;refine Ev.succ ?_;simp only[qU.l0];exact Ev.neg (by omega) ((Ev.ret _).to (by simp))
 |b::rest,i,hd,hi=>by
  obtain⟨h1,h2,h3⟩:=mb 0 hd;have er:rd l (i:Int)=b:=h2;have ih:=ame l hl x rest (i+1) h3 (by omega);refine Ev.succ ?_;simp only[qU.l0,er];refine Ev.pos (by omega) (Ev.pos (by omega) ?_);rw[jw i (by omega)];by_cases c:b=x
  ·exact Ev.pos c ((Ev.ret _).to (by simp[c]))
  ·refine Ev.neg c (ih.to ?_);rw[decide_eq_decide,List.mem_cons];constructor
   ·exact Or.inr
   ·rintro(h|h)
    ·exact absurd h.symm c
    ·exact h
theorem azI(l:List Int)(hl:l.length≤1048576)(x:Int):Ev (fun k=>qU.f k l x) (decide (x ∈ l)):=by
 unfold qU.f;exact ame l hl x l 0 rfl (by omega)
theorem apY(l:List Int)(hl:l.length≤1048576)(x:Int): ∀(rest:List Int) (i:Nat),l.drop i=rest→i≤l.length→ ∃r:Int,Ev (fun k=>r6.l0 k l x (l.length:Int) (i:Int)) r∧(0≤r↔x ∈ rest)
 | [],i,hd,hi=>by
  have he:=l9 hd hi;refine⟨-1,Ev.succ ?_,by simp⟩;simp only[r6.l0];exact Ev.neg (by omega) (Ev.ret _)
 |b::rest,i,hd,hi=>by
  obtain⟨h1,h2,h3⟩:=mb 0 hd;have er:rd l (i:Int)=b:=h2;by_cases c:x=b
  ·refine⟨(i:Int),Ev.succ ?_,by simp[c]⟩;simp only[r6.l0,er];exact Ev.pos (by omega) (Ev.pos (by omega) (Ev.pos (by omega) (Ev.pos c (Ev.ret _))))
  ·obtain⟨r,h4,h5⟩:=apY l hl x rest (i+1) h3 (by omega);refine⟨r,Ev.succ ?_,by rw[h5,List.mem_cons];constructor;exact Or.inr;rintro(h|h);exact absurd h c;exact h⟩;simp only[r6.l0,er];refine Ev.pos (by omega) (Ev.pos (by omega) (Ev.pos (by omega) (Ev.neg c ?_)));rw[jw i (by omega)];exact h4
theorem ax8(l:List Int)(hl:l.length≤1048576)(x:Int):Ev (fun k=>Js.f k l x) (decide (x ∈ l)):=by
 obtain⟨r,h1,h2⟩:=apY l hl x l 0 rfl (by omega);unfold Js.f r6.f;refine Ev.bind h1 ((Ev.ret _).to ?_);rw[decide_eq_decide];exact h2
def ud(d:List ai×List ai×List ai):fK:=⟨j5 d.2.1,(d.1.length:Int),(d.1.length:Int)+(d.2.1.length:Int)⟩
def rF(pre cur:List ai):List fK:=if cur= []then[]else[⟨j5 cur,(pre.length:Int),(pre.length:Int)+(cur.length:Int)⟩]
theorem abz(pre cur bs:List ai):(xk pre cur bs).map ud=rF pre cur:=by
 unfold xk rF;split<;>rfl
theorem akJ(pre cur:List ai):(rF pre cur).length≤1∧(cur= []→rF pre cur= []):=by
 unfold rF;split
 ·next h=>exact⟨by simp,fun _=>rfl⟩
 ·next h=>exact⟨by simp,fun c=>absurd c h⟩
theorem ala{cur:List ai}(h:cur≠ [])(b:ai):j5 (cur++ [b])=⟨(j5 cur).f0,(j5 cur).f1,(j5 cur).f2+b.f1⟩:=by
 cases cur with
 |nil=>exact absurd rfl h
 |cons x cur=>
  show(br.mk 0 x.f0 (eP (x::cur++ [b])))=br.mk 0 x.f0 (eP (x::cur)+b.f1);rw[xG];(have:eP [b]=b.f1:=by rw[qq,m6];omega);rw[this]
theorem alD{α:Type}(l:List α)(s d:α):(l++ [s]).getD l.length d=s:=by
 rw[List.getD_eq_getElem?_getD,List.getElem?_append_right (Nat.le_refl _),Nat.sub_self];rfl
theorem aqU{α:Type}(l:List α)(s t:α):(l++ [s]).set l.length t=l++ [t]:=by
 rw[List.set_append_right _ _ (Nat.le_refl _),Nat.sub_self];rfl
theorem Xt(h:Int)(fx:List Int)(hf:fx.length≤1048576)(bx:List ai)(hl:bx.length≤24)(hm: ∀b ∈ bx,1≤b.f1∧b.f1≤24):
  ∀(rest:List ai) (i:Nat) (pre cur:List ai) (done:List fK),bx.drop i=rest→i≤bx.length→pre.length+cur.length=i→done.length≤i→0≤eP cur→eP cur≤24*(i:Int)→
  Ev (fun k=>g6.l0 k (done++rF pre cur) (decide (cur≠ [])) bx (bx.length:Int) (i:Int) h fx bx) (done++(mT fx pre cur rest).map ud)
 | [],i,pre,cur,done,hd,hi,hp,hn,s0,s1=>by
  have he:=l9 hd hi;refine Ev.succ ?_;simp only[g6.l0,mT];rw[abz];exact Ev.neg (by omega) (Ev.ret _)
 |b::rest,i,pre,cur,done,hd,hi,hp,hn,s0,s1=>by
  obtain⟨h1,h2,h3⟩:=mb jf hd;have er:ah bx (i:Int)=b:=h2;(have hb:b ∈ bx:=by rw[←h2,qe _ h1];exact List.getElem_mem _);have KZ:=hm b hb;have V0:=akJ pre cur;refine Ev.succ ?_;simp only[g6.l0,er];refine Ev.pos (by omega) (Ev.pos (by omega) (Ev.pos (by omega) ?_));have go: ∀(s:Bool),s= !kj b→Ev (fun k=>g6.j1 k (done++rF pre cur) (decide (cur≠ [])) (i:Int) bx (bx.length:Int) (i:Int) s h fx bx b.f0 b.f1 b.f2 b.f3) (done++(mT fx pre cur (b::rest)).map ud):=by
   intro s hs;refine Ev.succ ?_;simp only[g6.j1,mT];rw[jw i (by omega)];cases Ls:kj b with
   |false=>
    rw[Ls]at hs;subst hs;rw[if_neg (by simp),List.map_append,abz,←List.append_assoc];have ih:=Xt h fx hf bx hl hm rest (i+1) (pre++cur++ [b]) [] (done++rF pre cur) h3 (by omega) (by simp;omega) (by simp;omega) (by rw[m6];omega) (by rw[m6];omega);rw[(akJ _ _).2 rfl,List.append_nil]at ih;exact Ev.pos (by trivial) (ih.to rfl)
   |true=>
    rw[Ls]at hs;subst hs;refine Ev.neg (by simp) ?_;rw[if_pos rfl];have new:(cur≠ []→b.f0 ∈ fx)→Ev (fun k=>if(done++rF pre cur).length<3518437208883 then g6.l0 k (done++rF pre cur++ [⟨⟨0,b.f0,b.f1⟩,(i:Int),((i+1:Nat):Int)⟩]) true bx (bx.length:Int) ((i+1:Nat):Int) h fx bx else none) (done++(if cur≠ []∧b.f0 ∉ fx then mT fx pre (cur++ [b]) rest else xk pre cur (b::rest)++mT fx (pre++cur) [b] rest).map ud):=by
     intro hc;rw[if_neg (fun e=>e.2 (hc e.1)),List.map_append,abz,←List.append_assoc];(have sb:eP [b]=b.f1:=by rw[qq,m6];omega);have ih:=Xt h fx hf bx hl hm rest (i+1) (pre++cur) [b] (done++rF pre cur) h3 (by omega) (by simp;omega) (by simp;omega) (by rw[sb];omega) (by rw[sb];omega);refine Ev.pos (by simp;omega) (Ev.of_eq ih (fun k=>?_));have e:rF (pre++cur) [b]= [⟨⟨0,b.f0,b.f1⟩,(i:Int),((i+1:Nat):Int)⟩]:=by
      unfold rF;rw[if_neg (by simp)];show[(fK.mk (br.mk 0 b.f0 (eP [b])) _ _)]=_;rw[sb,List.length_append,hp];rfl
     rw[e];rfl
    by_cases hc:cur= []
    ·(have e:decide (cur≠ [])=false:=by simp[hc]);rw[e];refine Ev.neg (by simp) ?_;exact new (fun c=>absurd hc c)
    ·(have e:decide (cur≠ [])=true:=by simp[hc]);rw[e];refine Ev.pos rfl ?_;refine Ev.bind (ax8 fx hf b.f0) ?_;by_cases yP:b.f0 ∈ fx
     ·refine Ev.pos (decide_eq_true yP) ?_;exact new (fun _=>yP)
     ·refine Ev.neg (by simpa using yP) ?_;rw[if_pos ⟨hc,yP⟩];(have eT:rF pre cur= [⟨j5 cur,(pre.length:Int),(pre.length:Int)+(cur.length:Int)⟩]:=by unfold rF;rw[if_neg hc]);have ih:=Xt h fx hf bx hl hm rest (i+1) pre (cur++ [b]) done h3 (by omega) (by simp;omega) (by omega) (by rw[xG,qq,m6];omega) (by rw[xG,qq,m6];omega);have eT2:rF pre (cur++ [b])= [⟨⟨(j5 cur).f0,(j5 cur).f1,(j5 cur).f2+b.f1⟩,(pre.length:Int),(i:Int)+1⟩]:=by
       unfold rF;rw[if_neg (by simp),ala hc,List.length_append];simp;omega
      rw[eT2]at ih;rw[eT];have hw:wrap64 (((done++ [(fK.mk (j5 cur) (pre.length:Int) ((pre.length:Int)+(cur.length:Int)))]).length:Int)-1)=(done.length:Int):=by
       simp;unfold wrap64;omega
      (have hg:(j5 cur).f2=eP cur:=by cases cur with|nil=>exact absurd rfl hc|cons x cur=>rfl);rw[hw];have hrd: ∀v:fK,aE (done++ [v]) (done.length:Int)=v:=fun v=>alD done v _;refine Ev.pos (by omega) (Ev.pos (by simp;omega) ?_);simp only[hrd,Int.toNat_natCast,aqU,Option.bind_some];refine Ev.of_eq ih (fun k=>?_);rw[wid ((j5 cur).f2+b.f1) (by omega) (by omega),show(pre.length:Int)+(cur.length:Int)=(i:Int) by omega,wid ((i:Int)+1) (by omega) (by omega)];(have e2:decide (cur++ [b]≠ [])=true:=by simp);rw[e2]
  by_cases c2:b.f2=0
  ·refine Ev.pos c2 (go b.f3 ?_);unfold kj;rw[decide_eq_true c2,Bool.true_and,Bool.not_not]
  ·refine Ev.neg c2 (go true ?_);unfold kj;rw[decide_eq_false c2];rfl
theorem aqP(h:Int)(fx:List Int)(hf:fx.length≤1048576)(bx:List ai)(hl:bx.length≤24)(hm: ∀b ∈ bx,1≤b.f1∧b.f1≤24):Ev (fun k=>g6.f k h fx bx) ((mT fx [] [] bx).map ud):=by
 unfold g6.f;exact Xt h fx hf bx hl hm bx 0 [] [] [] rfl (by omega) rfl (by simp) (by rw[m6];omega) (by rw[m6];omega)
theorem US(fx:List Int): ∀(bs cur:List ai),(fR fx cur bs).length≤bs.length+(fY cur).length
 | [],cur=>by simp[fR]
 |b::bs,cur=>by
  (have e1: ∀(x:List ai),(fY x).length≤1:=fun x=>by unfold fY;split<;>simp);have e0:fY []= []:=rfl;simp only[fR];split
  ·split
   ·next h=>
    have:=US fx bs (cur++ [b]);(have e2:(fY cur).length=1:=by unfold fY;rw[if_neg h.1];rfl);have:=e1 (cur++ [b]);simp;omega
   ·have:=US fx bs [b];have:=e1 [b];simp;omega
  ·have:=US fx bs [];rw[e0]at this;simp at this⊢;omega
theorem Oe(fx:List Int)(bx:List ai):(iK fx bx).length≤bx.length:=by
 have:=US fx bx [];have e0:fY []= []:=rfl;rw[e0]at this;unfold iK;simpa using this
def rG(h:Int)(fx:List Int)(bx:List ai):List br:=if hO h fx bx=true then iK fx bx else[]
theorem azl(h:Int)(fx:List Int)(bx:List ai):(rG h fx bx).length≤24:=by
 unfold rG;split
 ·next c=>
  have:=Oe fx bx;have:=((nO h fx bx).mp c).len;omega
 ·simp
theorem aej(a b c:Int)(d:Bool):tX.f a b c d=some (kj ⟨a,b,c,d⟩):=by
 unfold tX.f kj;dsimp only;by_cases h:c=0
 ·rw[if_pos h,decide_eq_true h,Bool.true_and]
 ·rw[if_neg h,decide_eq_false h,Bool.false_and]
theorem UR(h:Int)(fx:List Int)(hf:fx.length≤1048576)(bx:List ai)(hl:bx.length≤24)(hm: ∀b ∈ bx,1≤b.f1∧b.f1≤24):
  ∀(rest:List ai) (i:Nat) (cur:List ai) (done:List br),bx.drop i=rest→i≤bx.length→done.length≤i→0≤eP cur→eP cur≤24*(i:Int)→(cur≠ []↔0<i∧kj (bx.getD (i-1) jf)=true)→
  Ev (fun k=>iu.l0 k (done++fY cur) (i:Int) h fx bx) (done++fR fx cur rest)
 | [],i,cur,done,hd,hi,hn,s0,s1,hc=>by
  have he:=l9 hd hi;refine Ev.succ ?_;simp only[iu.l0,fR];exact Ev.neg (by omega) (Ev.ret _)
 |b::rest,i,cur,done,hd,hi,hn,s0,s1,hc=>by
  obtain⟨h1,h2,h3⟩:=mb jf hd;have er:ah bx (i:Int)=b:=h2;(have hb:b ∈ bx:=by rw[←h2,qe _ h1];exact List.getElem_mem _);have KZ:=hm b hb;have eb:(ai.mk b.f0 b.f1 b.f2 b.f3)=b:=rfl;(have V0:(fY cur).length≤1:=by unfold fY;split<;>simp);refine Ev.succ ?_;simp only[iu.l0,er,fR];rw[jw i (by omega)];refine Ev.pos (by omega) (Ev.pos (by omega) ?_);refine Ev.bind (Ev.const (aej _ _ _ _)) ?_;rw[eb];(have nxt:kj (bx.getD (i+1-1) jf)=kj b:=by rw[Nat.add_sub_cancel,h2]);cases Ls:kj b with
  |false=>
   refine Ev.neg (by simp) ?_;rw[if_neg (by simp),←List.append_assoc];have ih:=UR h fx hf bx hl hm rest (i+1) [] (done++fY cur) h3 (by omega) (by simp;omega) (by rw[m6];omega) (by rw[m6];omega) ⟨fun c=>absurd rfl c,fun c=>by rw[nxt,Ls]at c;simp at c⟩;have e0:fY []= []:=rfl;rw[e0,List.append_nil]at ih;exact ih
  |true=>
   refine Ev.pos (by trivial) ?_;rw[if_pos rfl];(have sb:eP [b]=b.f1:=by rw[qq,m6];omega);have new:(cur≠ []→b.f0 ∈ fx)→Ev (fun k=>if(done++fY cur).length<5864062014805 then iu.l0 k (done++fY cur++ [⟨0,b.f0,b.f1⟩]) ((i+1:Nat):Int) h fx bx else none) (done++(if cur≠ []∧b.f0 ∉ fx then fR fx (cur++ [b]) rest else fY cur++fR fx [b] rest)):=by
    intro OA;rw[if_neg (fun e=>e.2 (OA e.1)),←List.append_assoc];have ih:=UR h fx hf bx hl hm rest (i+1) [b] (done++fY cur) h3 (by omega) (by simp;omega) (by rw[sb];omega) (by rw[sb];omega) ⟨fun _=>⟨by omega,by rw[nxt,Ls]⟩,fun _=>by simp⟩;refine Ev.pos (by simp;omega) (Ev.of_eq ih (fun k=>?_));have e:fY [b]= [⟨0,b.f0,b.f1⟩]:=by
     unfold fY;rw[if_neg (by simp)];show[(br.mk 0 b.f0 (eP [b]))]=_;rw[sb]
    rw[e]
   by_cases sL:cur= []
   ·have hno: ¬(0<i∧kj (bx.getD (i-1) jf)=true):=fun c=>hc.mpr c sL;by_cases ci:(i:Int)>0
    ·refine Ev.pos ci ?_;rw[XZ i (by omega) (by omega)];have Oa:ah bx ((i-1:Nat):Int)=bx.getD (i-1) jf:=rfl;refine Ev.pos (by omega) (Ev.pos (by omega) (Ev.bind (Ev.const (aej _ _ _ _)) ?_));rw[Oa];refine Ev.neg (fun c=>hno ⟨by omega,c⟩) ?_;exact new (fun c=>absurd sL c)
    ·refine Ev.neg ci ?_;exact new (fun c=>absurd sL c)
   ·obtain⟨ci,co⟩:=hc.mp sL;refine Ev.pos (by omega) ?_;rw[XZ i (by omega) (by omega)];have Oa:ah bx ((i-1:Nat):Int)=bx.getD (i-1) jf:=rfl;refine Ev.pos (by omega) (Ev.pos (by omega) (Ev.bind (Ev.const (aej _ _ _ _)) ?_));rw[Oa];refine Ev.pos co ?_;refine Ev.bind (azI fx hf b.f0) ?_;by_cases yP:b.f0 ∈ fx
    ·refine Ev.pos (decide_eq_true yP) ?_;exact new (fun _=>yP)
    ·refine Ev.neg (by simpa using yP) ?_;rw[if_pos ⟨sL,yP⟩];(have eT:fY cur= [j5 cur]:=by unfold fY;rw[if_neg sL]);have ih:=UR h fx hf bx hl hm rest (i+1) (cur++ [b]) done h3 (by omega) (by omega) (by rw[xG,sb];omega) (by rw[xG,sb];omega) ⟨fun _=>⟨by omega,by rw[nxt,Ls]⟩,fun _=>by simp⟩;have eT2:fY (cur++ [b])= [⟨(j5 cur).f0,(j5 cur).f1,(j5 cur).f2+b.f1⟩]:=by
      unfold fY;rw[if_neg (by simp),ala sL]
     rw[eT2]at ih;rw[eT];(have hg:(j5 cur).f2=eP cur:=by cases cur with|nil=>exact absurd rfl sL|cons x cur=>rfl);have hw:wrap64 (((done++ [j5 cur]).length:Int)-1)=(done.length:Int):=by
      simp;unfold wrap64;omega
     rw[hw];have hrd: ∀v:br,cu (done++ [v]) (done.length:Int)=v:=fun v=>alD done v _;refine Ev.pos (by omega) (Ev.pos (by simp;omega) ?_);simp only[hrd,Int.toNat_natCast,aqU];rw[wid ((j5 cur).f2+b.f1) (by omega) (by omega)];exact ih
theorem alc(h:Int)(fx:List Int)(hf:fx.length≤1048576)(bx:List ai)(hb:bx.length≤1048576):Ev (fun k=>iu.f k h fx bx) (rG h fx bx):=by
 unfold iu.f rG;refine Ev.bind (Ev.ret _) (Ev.bind (KR h fx (by omega) bx (by omega)) ?_);by_cases c:hO h fx bx=true
 ·have v:=(nO h fx bx).mp c;rw[if_pos c];refine Ev.pos c ?_;exact UR h fx hf bx v.len (fun b hb=>by have:=v.mem hb;omega) bx 0 [] [] rfl (by omega) (by simp) (by rw[m6];omega) (by rw[m6];omega) ⟨fun c=>absurd rfl c,fun c=>absurd c.1 (by omega)⟩
 ·rw[if_neg c];exact Ev.neg c (Ev.ret _)
def ij:Int→List aT→List br
 |_,[]=> []
 |k,c::cs=>(iK c.f1 c.f2).map (fun g=>⟨k,g.f1,g.f2⟩)++ij (k+1) cs
def k8(cs:List aT):List br:=if lZ cs=true then ij 0 cs else[]
structure Flat(cs:List aT):Prop where
 len:cs.length≤6
 fix: ∀c ∈ cs,c.f1.length≤1048576
 box: ∀c ∈ cs,c.f2.length≤24
 sz: ∀c ∈ cs,∀b ∈ c.f2,1≤b.f1∧b.f1≤24
theorem xY.flat{cs:List aT}(v:xY cs)(hs:Small cs):Flat cs:=
 ⟨by have:=v.len;omega,fun c hc=>(hs.2 c hc).1,fun c hc=>((nO _ _ _).mp (v.col c hc)).len,fun c hc b hb=>by have:=((nO _ _ _).mp (v.col c hc)).mem hb;omega⟩
theorem ajP{r':List br}(cs:List aT)(i:Nat)(hi:i≤1048576)(gs:List br)(hg:gs.length≤24)(M:Nat)(hM:M≤1048576)(res:List br)
  (hr:Ev (fun k=>gU.l0 k cs res ((i+1:Nat):Int)) r'): ∀(rest:List br) (n:Nat) (acc:List br),gs.drop n=rest→n≤gs.length→acc.length≤M+n→acc++rest.map (fun g=>⟨(i:Int),g.f1,g.f2⟩)=res→Ev (fun k=>gU.l1 k cs acc (i:Int) gs (n:Int)) r'
 | [],n,acc,hd,hn,ha,C7=>by
  have he:=l9 hd hn;refine Ev.succ ?_;simp only[gU.l1];rw[jw i (by omega)];simp at C7;subst C7;exact Ev.neg (by omega) hr
 |g::rest,n,acc,hd,hn,ha,C7=>by
  obtain⟨h1,h2,h3⟩:=mb xR hd;have er:cu gs (n:Int)=g:=h2;refine Ev.succ ?_;simp only[gU.l1,er];rw[jw n (by omega)];exact Ev.pos (by omega) (Ev.pos (by omega) (Ev.pos (by omega) (ajP cs i hi gs hg M hM res hr rest (n+1) _ h3 (by omega) (by simp;omega) (by rw[←C7];simp))))
theorem ajQ(cs:List aT)(hf:Flat cs)(hc: ∀c ∈ cs,hO c.f0 c.f1 c.f2=true): ∀(rest:List aT) (i:Nat) (acc:List br),cs.drop i=rest→i≤cs.length→acc.length≤24*i→Ev (fun k=>gU.l0 k cs acc (i:Int)) (acc++ij (i:Int) rest)
 | [],i,acc,hd,hi,ha=>by
  have he:=l9 hd hi;have hl:=hf.len;refine Ev.succ ?_;simp only[gU.l0];exact Ev.neg (by omega) ((Ev.ret _).to (by simp[ij]))
 |c::rest,i,acc,hd,hi,ha=>by
  obtain⟨h1,h2,h3⟩:=mb jW hd;have er:av cs (i:Int)=c:=h2;(have hm:c ∈ cs:=by rw[←h2,qe _ h1];exact List.getElem_mem _);have hl:=hf.len;have hb:=hf.box c hm;(have hg:rG c.f0 c.f1 c.f2=iK c.f1 c.f2:=by unfold rG;rw[if_pos (hc c hm)]);have hgl:=Oe c.f1 c.f2;have ih:=ajQ cs hf hc rest (i+1) (acc++(iK c.f1 c.f2).map (fun g=>⟨(i:Int),g.f1,g.f2⟩)) h3 (by omega) (by simp;omega);refine Ev.succ ?_;simp only[gU.l0,er];refine Ev.pos (by omega) (Ev.pos (by omega) (Ev.bind (alc c.f0 c.f1 (hf.fix c hm) c.f2 (by omega)) ?_));rw[hg];refine ajP cs i (by omega) _ (by omega) (24*i) (by omega) _ (ih.to ?_) _ 0 acc rfl (by omega) (by omega) rfl;rw[ij,List.append_assoc];rfl
theorem aae(cs:List aT)(hs:Small cs):Ev (fun k=>gU.f k cs) (k8 cs):=by
 unfold gU.f k8;refine Ev.bind (Ev.ret _) (Ev.bind (TN cs hs) ?_);by_cases hb:lZ cs=true
 ·rw[if_pos hb];have v:=(CG cs).mp hb;exact Ev.pos hb (ajQ cs (v.flat hs) v.col cs 0 [] rfl (by omega) (by simp))
 ·rw[if_neg hb];exact Ev.neg hb (Ev.ret _)
theorem ajR(cs:List aT)(hcs:cs.length≤6)(i:Nat)(hi:i<cs.length)(rs:List fK)(hg:rs.length≤24)(M:Nat)(hM:M≤1048576)(res:List br){r':List br}
  (hr:Ev (fun k=>lK.l0 k res cs (cs.length:Int) ((i+1:Nat):Int)) r'): ∀(rest:List fK) (n:Nat) (acc:List br),rs.drop n=rest→n≤rs.length→acc.length≤M+n→acc++rest.map (fun r=>⟨(i:Int),r.f0.f1,r.f0.f2⟩)=res→Ev (fun k=>lK.l1 k acc (i:Int) cs (cs.length:Int) (i:Int) rs (rs.length:Int) (n:Int)) r'
 | [],n,acc,hd,hn,ha,C7=>by
  have he:=l9 hd hn;refine Ev.succ ?_;simp only[lK.l1];rw[jw i (by omega)];simp at C7;subst C7;exact Ev.neg (by omega) hr
 |g::rest,n,acc,hd,hn,ha,C7=>by
  obtain⟨h1,h2,h3⟩:=mb FU hd;have er:aE rs (n:Int)=g:=h2;refine Ev.succ ?_;simp only[lK.l1,er];rw[jw n (by omega)];exact Ev.pos (by omega) (Ev.pos (by omega) (Ev.pos (by omega) (Ev.pos (by omega) (ajR cs hcs i hi rs hg M hM res hr rest (n+1) _ h3 (by omega) (by simp;omega) (by rw[←C7];simp)))))
theorem ajS(cs:List aT)(hf:Flat cs): ∀(rest:List aT) (i:Nat) (acc:List br),cs.drop i=rest→i≤cs.length→acc.length≤24*i→Ev (fun k=>lK.l0 k acc cs (cs.length:Int) (i:Int)) (acc++ij (i:Int) rest)
 | [],i,acc,hd,hi,ha=>by
  have he:=l9 hd hi;have hl:=hf.len;refine Ev.succ ?_;simp only[lK.l0];exact Ev.neg (by omega) ((Ev.ret _).to (by simp[ij]))
 |c::rest,i,acc,hd,hi,ha=>by
  obtain⟨h1,h2,h3⟩:=mb jW hd;have er:av cs (i:Int)=c:=h2;(have hm:c ∈ cs:=by rw[←h2,qe _ h1];exact List.getElem_mem _);have hl:=hf.len;have hb:=hf.box c hm;have hgl:=Oe c.f1 c.f2;have hdl:((mT c.f1 [] [] c.f2).map ud).length≤24:=by
   have h2:=congrArg List.length (EJ c.f1 c.f2 [] []);rw[List.length_map]at h2⊢;unfold iK at hgl;omega
  have ih:=ajS cs hf rest (i+1) (acc++(iK c.f1 c.f2).map (fun g=>⟨(i:Int),g.f1,g.f2⟩)) h3 (by omega) (by simp;omega);refine Ev.succ ?_;simp only[lK.l0,er];refine Ev.pos (by omega) (Ev.pos (by omega) (Ev.pos (by omega) (Ev.bind (aqP c.f0 c.f1 (hf.fix c hm) c.f2 hb (hf.sz c hm)) ?_)));refine ajR cs hl i h1 _ hdl (24*i) (by omega) _ (ih.to ?_) _ 0 acc rfl (by omega) (by omega) ?_
  ·rw[ij,List.append_assoc];rfl
  ·rw[List.drop_zero,List.map_map];unfold iK;rw[←EJ c.f1 c.f2 [] [],List.map_map];rfl
theorem awT(cs:List aT)(hf:Flat cs):Ev (fun k=>lK.f k cs) (ij 0 cs):=by
 unfold lK.f;exact ajS cs hf cs 0 [] rfl (by omega) (by simp)
theorem ajI(cs:List aT)(hs:Small cs):Ev (fun k=>zO.f k cs) (k8 cs):=by
 unfold zO.f k8;refine Ev.bind (Ev.const rfl) ?_;by_cases hb:lZ cs=true
 ·rw[if_pos hb];have v:=(CG cs).mp hb;exact Ev.pos hb (Ev.bind (awT cs (v.flat hs)) (Ev.ret _))
 ·rw[if_neg hb];exact Ev.neg hb (Ev.ret _)
theorem ajE: ∀(cs:List aT) (k:Int),(∀c ∈ cs,c.f2.length≤24)→(ij k cs).length≤24*cs.length
 | [],_,_=>by simp[ij]
 |c::cs,k,h=>by
  have:=ajE cs (k+1) (fun d hd=>h d (by simp[hd]));have:=Oe c.f1 c.f2;have:=h c (by simp);rw[ij];simp;omega
theorem TM(cs:List aT):(k8 cs).length≤144:=by
 unfold k8;split
 ·next hb=>
  have v:=(CG cs).mp hb;have:=ajE cs 0 (fun c hc=>((nO _ _ _).mp (v.col c hc)).len);have:=v.len;omega
 ·simp
theorem UT(fx:List Int): ∀(bs cur:List ai) (M:Int),(∀b ∈ bs,1≤b.f1)→(cur≠ []→1≤eP cur)→eP cur+eP bs≤M→ ∀g ∈ fR fx cur bs,1≤g.f2∧g.f2≤M
 | [],cur,M,_,hc,hM,g,hg=>by
  simp only[fR,fY]at hg;split at hg
  ·simp at hg
  ·next h=>
   rw[List.mem_singleton.mp hg];(have VX:(j5 cur).f2=eP cur:=by cases cur with|nil=>exact absurd rfl h|cons x cur=>rfl);have:=hc h;rw[m6]at hM;omega
 |b::bs,cur,M,hb,hc,hM,g,hg=>by
  have pH:=hb b (by simp);have U0: ∀x ∈ bs,1≤x.f1:=fun x hx=>hb x (by simp[hx]);(have sb:eP [b]=b.f1:=by rw[qq,m6];omega);have sn: ∀l:List ai,(∀x ∈ l,1≤x.f1)→0≤eP l:=by
   intro l;induction l with
   |nil=>intro _;exact Int.le_refl _
   |cons x l ih=>intro h;rw[qq];have:=h x (by simp);have:=ih (fun y hy=>h y (by simp[hy]));omega
  have s0:=sn bs U0;have sc:0≤eP cur:=by
   by_cases h:cur= []
   ·subst h;exact Int.le_refl _
   ·have:=hc h;omega
  rw[qq]at hM;have em: ∀g ∈ fY cur,1≤g.f2∧g.f2≤M:=by
   intro g hg;unfold fY at hg;split at hg
   ·simp at hg
   ·next h=>
    rw[List.mem_singleton.mp hg];(have VX:(j5 cur).f2=eP cur:=by cases cur with|nil=>exact absurd rfl h|cons x cur=>rfl);have:=hc h;omega
  simp only[fR]at hg;split at hg
  ·split at hg
   ·exact UT fx bs (cur++ [b]) M U0 (fun _=>by rw[xG,sb];omega) (by rw[xG,sb];omega) g hg
   ·rcases List.mem_append.mp hg with hg|hg
    ·exact em g hg
    ·exact UT fx bs [b] M U0 (fun _=>by rw[sb];omega) (by rw[sb];omega) g hg
  ·rcases List.mem_append.mp hg with hg|hg
   ·exact em g hg
   ·exact UT fx bs [] M U0 (fun h=>absurd rfl h) (by rw[m6];omega) g hg
theorem alb(fx:List Int)(bx:List ai)(lo hi:Int)(ht:jl lo bx hi): ∀g ∈ iK fx bx,1≤g.f2∧g.f2≤hi-lo:=by
 have:=uc _ _ _ ht;exact UT fx bx [] (hi-lo) (fun b hb=>(DQ _ _ _ ht b hb).2.1) (fun h=>absurd rfl h) (by rw[m6];omega)
theorem ajG: ∀(cs:List aT) (k:Int),(∀c ∈ cs,∃h,jl 0 c.f2 h∧h≤24)→ ∀g ∈ ij k cs,1≤g.f2∧g.f2≤24
 | [],_,_,g,hg=>by simp[ij]at hg
 |c::cs,k,h,g,hg=>by
  rw[ij]at hg;rcases List.mem_append.mp hg with hg|hg
  ·obtain⟨x,hx,rfl⟩:=List.mem_map.mp hg;obtain⟨e,ht,he⟩:=h c (by simp);have:=alb c.f1 c.f2 0 e ht x hx;exact⟨this.1,by show x.f2≤24;omega⟩
  ·exact ajG cs (k+1) (fun d hd=>h d (by simp[hd])) g hg
theorem awS(cs:List aT): ∀g ∈ k8 cs,1≤g.f2∧g.f2≤24:=by
 unfold k8;split
 ·next hb=>
  have v:=(CG cs).mp hb;exact ajG cs 0 (fun c hc=>⟨c.f0,((nO _ _ _).mp (v.col c hc)).nc,((nO _ _ _).mp (v.col c hc)).hi.2⟩)
 ·intro g hg;simp at hg
end Go.Proofs.Ytbpjidekjogfeaa.A
