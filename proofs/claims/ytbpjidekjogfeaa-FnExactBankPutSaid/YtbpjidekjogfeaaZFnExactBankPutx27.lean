/- Used by the law FnExactBankPut. -/
import Derived.Test.YtbpjidekjogfeaaZFnExactBankPutx26
namespace Go.Proofs.Ytbpjidekjogfeaa.A
open Go.RowKit Go.Proofs.YtbpjidekjogfeaaW.cv Go.Proofs.YtbpjidekjogfeaaW.dr Go.Proofs.YtbpjidekjogfeaaW.dN
set_option linter.unusedVariables false
set_option linter.unusedSimpArgs false
def vu:List (List aj)→Nat
 | []=>0
 |l::ls=>l.length+vu ls
theorem Zd(ls:List (List aj))(hl:ls.length≤1048576): ∀(rest:List (List aj)) (i:Nat) (acc:List aj),ls.drop i=rest→i≤ls.length→acc.length+vu rest≤1048576→
  Ev (fun k=>iQ.l1 k acc ls (ls.length:Int) (i:Int)) (acc++rest.flatten)
 | [],i,acc,hd,hi,ha=>by
  have he:=jE hd hi;refine Ev.succ ?_;simp only[iQ.l1];exact Ev.neg (by omega) ((Ev.ret _).to (by simp))
 |b::rest,i,acc,hd,hi,ha=>by
  obtain⟨h1,h2,h3⟩:=jF [] hd;have er:n4 ls (i:Int)=b:=h2;rw[vu]at ha;refine Ev.succ ?_;simp only[iQ.l1,er];rw[eY i (by omega)];refine Ev.pos (by omega) (Ev.pos (by omega) (Ev.pos (by omega) (Ev.pos (by omega) ?_)));refine(Zd ls hl rest (i+1) (acc++b) h3 (by omega) (by simp;omega)).to ?_;simp
theorem Zc(ls:List (List aj))(hl:ls.length≤1048576)(ht:vu ls≤1048576): ∀(rest:List (List aj)) (i:Nat) (s:Nat),ls.drop i=rest→i≤ls.length→s+vu rest=vu ls→
  Ev (fun k=>iQ.l0 k ls (s:Int) ls (ls.length:Int) (i:Int)) ls.flatten
 | [],i,s,hd,hi,ha=>by
  have he:=jE hd hi;rw[vu]at ha;refine Ev.succ ?_;simp only[iQ.l0];refine Ev.neg (by omega) ?_;refine Ev.bind (a:= []) (Ev.const (by unfold AL.f;rw[if_pos (by omega)])) ?_;have:=Zd ls hl ls 0 [] rfl (by omega) (by simp;omega);exact this
 |b::rest,i,s,hd,hi,ha=>by
  obtain⟨h1,h2,h3⟩:=jF [] hd;have er:n4 ls (i:Int)=b:=h2;rw[vu]at ha;refine Ev.succ ?_;simp only[iQ.l0,er];rw[eY i (by omega),wid ((s:Int)+(b.length:Int)) (by omega) (by omega)];refine Ev.pos (by omega) (Ev.pos (by omega) (Ev.pos (by omega) (Ev.neg (by omega) ?_)));exact Zc ls hl ht rest (i+1) (s+b.length) h3 (by omega) (by omega)
theorem ajZ(ls:List (List aj))(hl:ls.length≤1048576)(ht:vu ls≤1048576):Ev (fun k=>iQ.f k ls) ls.flatten:=by
 unfold iQ.f;exact Zc ls hl ht ls 0 0 rfl (by omega) (by omega)
def qI(lo:Int)(N:List aj):List aj→List (List aj×List aj×List aj)→List aj
 |acc,[]=>acc
 |acc,d::ds=>qI lo N (if fl d.2.1=lo then d.1++N++d.2.2 else acc) ds
theorem ZA(h:Int)(fx:List Int)(bx:List aj)(hl:bx.length≤24)(lo:Int)(N:List aj)(hN:N.length≤24)(D:List (List aj×List aj×List aj))(hD:D.length≤24)(Z9: ∀d ∈ D,d.1++d.2.1++d.2.2=bx∧d.2.1≠ []):
  ∀(rest:List (List aj×List aj×List aj)) (i:Nat) (acc:List aj),D.drop i=rest→i≤D.length→Ev (fun k=>gm.l0 k lo N (D.map oM) ((D.map oM).length:Int) (i:Int) h fx bx h fx acc) (h,fx,qI lo N acc rest)
 | [],i,acc,hd,hi=>by
  have he:=jE hd hi;refine Ev.succ ?_;simp only[gm.l0,List.length_map];exact Ev.neg (by omega) (Ev.ret _)
 |d::rest,i,acc,hd,hi=>by
  obtain⟨h1,h2,h3⟩:=jF ([],[],[]) hd;(have hm:d ∈ D:=by rw[←h2,m6 _ h1];exact List.getElem_mem _);have er:ax (D.map oM) (i:Int)=oM d:=by
   show(D.map oM).getD i _=_;rw[List.getD_eq_getElem?_getD,List.getElem?_map,List.getElem?_eq_getElem h1,←h2,m6 _ h1];rfl
  obtain⟨hall,hne⟩:=Z9 d hm;have hlen:=congrArg List.length hall;simp at hlen;have elo:(oM d).f0.f1=fl d.2.1:=by
   unfold oM;cases hR:d.2.1 with
   |nil=>exact absurd hR hne
   |cons x xs=>rfl
  have ef:(oM d).f1=(d.1.length:Int):=rfl;have et:(oM d).f2=(d.1.length:Int)+(d.2.1.length:Int):=rfl;have ih:=fun acc=>ZA h fx bx hl lo N hN D hD Z9 rest (i+1) acc h3 (by omega);refine Ev.succ ?_;simp only[gm.l0,er,elo,ef,et,qI];rw[eY i (by omega)];refine Ev.pos (by rw[List.length_map];omega) (Ev.pos (by omega) (Ev.pos (by rw[List.length_map];omega) ?_));by_cases c:fl d.2.1=lo
  ·rw[if_pos c];refine Ev.pos c (Ev.pos (by omega) (Ev.pos (by omega) (Ev.pos (by omega) (Ev.pos (by omega) ?_))));have e1:bx.take ((d.1.length:Int)).toNat=d.1:=by
    rw[Int.toNat_natCast,←hall,List.append_assoc,List.take_left'];rfl
   have e2:bx.drop ((d.1.length:Int)+(d.2.1.length:Int)).toNat=d.2.2:=by
    rw[show((d.1.length:Int)+(d.2.1.length:Int)).toNat=(d.1++d.2.1).length by rw[List.length_append];omega,←hall,List.drop_left'];rfl
   rw[e1,e2];refine Ev.bind (ajZ _ (by simp) (by simp only[vu];omega)) ?_;refine(ih _).to ?_;simp
  ·rw[if_neg c];exact Ev.neg c (ih acc)
theorem ak3(h:Int)(fx:List Int)(hf:fx.length≤1048576)(bx:List aj)(hl:bx.length≤24)(hm: ∀b ∈ bx,1≤b.f1∧b.f1≤24)(lo:Int)(N:List aj)(hN:N.length≤24):Ev (fun k=>gm.f k h fx bx lo N) (h,fx,qI lo N bx (jP fx [] [] bx)):=by
 unfold gm.f;refine Ev.bind (Zg h fx bx (by omega) (by omega)) (Ev.bind (aep h fx hf bx hl hm) ?_);have hD:(jP fx [] [] bx).length≤24:=by
  have h2:=congrArg List.length (yl fx bx [] []);have h1:=Lm fx bx;rw[List.length_map]at h2;unfold gj at h1;omega
 exact ZA h fx bx hl lo N hN _ hD (fun d hd=>⟨(FG fx bx d hd).all,(FG fx bx d hd).ne⟩) _ 0 bx rfl (by omega)
theorem wh{R:List aj}(h:R≠ []):gM R=⟨0,fl R,dR R⟩:=by
 cases R with
 |nil=>exact absurd rfl h
 |cons x R=>rfl
theorem Zy(lo:Int)(N:List aj): ∀(D:List (List aj×List aj×List aj)) (acc:List aj),(∀d ∈ D,fl d.2.1≠lo)→qI lo N acc D=acc
 | [],_,_=>rfl
 |d::D,acc,h=>by
  rw[qI,if_neg (h d (by simp))];exact Zy lo N D acc (fun x hx=>h x (by simp[hx]))
theorem Zz(lo:Int)(N:List aj): ∀(D:List (List aj×List aj×List aj)) (acc:List aj) (d:List aj×List aj×List aj),d ∈ D→D.Pairwise (fun a b=>fl a.2.1<fl b.2.1)→fl d.2.1=lo→qI lo N acc D=d.1++N++d.2.2
 | [],_,d,hd,_,_=>absurd hd (by simp)
 |x::D,acc,d,hd,hp,hl=>by
  obtain⟨h1,h2⟩:=List.pairwise_cons.mp hp;rw[qI];rcases List.mem_cons.mp hd with rfl|hd
  ·rw[if_pos hl];exact Zy lo N D _ (fun y hy=>by have:=h1 y hy;omega)
  ·exact Zz lo N D _ d hd h2 hl
theorem aj6(fx:List Int)(bx:List aj)(lo hi:Int)(ht:hO lo bx hi):(jP fx [] [] bx).Pairwise (fun a b=>fl a.2.1<fl b.2.1):=by
 have h1:=(FW fx bx [] lo hi ht (fun c=>absurd rfl c)).1;rw[←yl fx bx [] [],List.pairwise_map]at h1;refine List.Pairwise.imp_of_mem (fun ha hb h=>?_) h1;rw[wh (FG fx bx _ ha).ne,wh (FG fx bx _ hb).ne]at h;exact h
theorem ZJ(fx:List Int)(bx:List aj)(lo hi:Int)(ht:hO lo bx hi)(g:aQ)(hg:g ∈ gj fx bx): ∃A R B,pY fx bx A R B∧g=⟨0,fl R,dR R⟩∧(∀N,mD g.f1 g.f2 N bx=A++N++B)∧ ∀N,qI g.f1 N bx (jP fx [] [] bx)=A++N++B:=by
 unfold gj at hg;rw[←yl fx bx [] []]at hg;obtain⟨d,hd,rfl⟩:=List.mem_map.mp hg;have hr:=FG fx bx d hd;have e:=wh hr.ne;refine⟨d.1,d.2.1,d.2.2,hr,e,fun N=>?_,fun N=>?_⟩
 ·rw[e];have h2:=hr.all;(have h3:hO lo (d.1++d.2.1++d.2.2) hi:=by rw[h2];exact ht);have:=ak1 h3 hr.ne N;rw[h2]at this;exact this
 ·rw[e];exact Zz _ N _ bx d hd (aj6 fx bx lo hi ht) rfl
theorem VK{A R B N:List aj}{lo hi:Int}(h:hO lo (A++R++B) hi)(hR:R≠ [])(hN:hO (fl R) N (fl R+dR R)):hO lo (A++N++B) hi:=by
 rw[xw,xw]at h⊢;obtain⟨⟨h1,h2⟩,h3⟩:=h;have e:fl R=lo+dR A:=by
  cases R with
  |nil=>exact absurd rfl hR
  |cons x R=>exact h2.1
 have s:=(pJ _ _ _ hN).1;rw[uk]at h3⊢;(have e2:dR N=dR R:=by omega);rw[e2];refine⟨⟨h1,?_⟩,h3⟩;rw[e]at hN;rw[←Int.add_assoc];exact hN
def gC(lo sz jS size:Int):List aj:=⟨lo,size,jS,false⟩::(if size<sz then[⟨lo+size,sz-size,0,false⟩]else[])
theorem Uw(lo sz jS size:Int):(gC lo sz jS size).length≤2:=by
 unfold gC;split<;>simp
theorem Rg(h:Int)(fx:List Int)(bx:List aj)(hl:bx.length≤24)(g0 lo sz jS size:Int)(h0:0≤lo)(h1:lo≤1000)(h2:0≤sz)(h3:sz≤1000)(h4:0≤size)(h5:size≤1000):
  ∀(rest:List aj) (i:Nat) (acc:List aj),bx.drop i=rest→i≤bx.length→acc.length≤3*i→Ev (fun k=>eU.l0 k jS size (i:Int) h fx bx g0 lo sz h fx acc) (h,fx,acc++mD lo sz (gC lo sz jS size) rest)
 | [],i,acc,hd,hi,ha=>by
  have he:=jE hd hi;refine Ev.succ ?_;simp only[eU.l0];exact Ev.neg (by omega) ((Ev.ret _).to (by simp[mD]))
 |b::rest,i,acc,hd,hi,ha=>by
  obtain⟨d1,d2,d3⟩:=jF eE hd;have er:ah bx (i:Int)=b:=d2;have hn:=Uw lo sz jS size;have ef:mD lo sz (gC lo sz jS size) (b::rest)=((if b.f0=lo then gC lo sz jS size else[])++(if b.f0<lo∨lo+sz≤b.f0 then[b]else[]))++mD lo sz (gC lo sz jS size) rest:=by
   unfold mD;rw[List.flatMap_cons]
  have last: ∀(CU:List aj),CU.length≤3*i+2→Ev (fun k=>eU.j1 k jS size (i:Int) h fx bx g0 lo sz h fx CU b.f0 b.f1 b.f2 b.f3) (h,fx,CU++(if b.f0<lo∨lo+sz≤b.f0 then[b]else[])++mD lo sz (gC lo sz jS size) rest):=by
   intro CU hacc;refine Ev.succ ?_;simp only[eU.j1];rw[eY i (by omega),wid (lo+sz) (by omega) (by omega)];have keep:=Rg h fx bx hl g0 lo sz jS size h0 h1 h2 h3 h4 h5 rest (i+1) (CU++ [b]) d3 (by omega) (by simp;omega);by_cases c1:b.f0<lo
   ·rw[if_pos (Or.inl c1)];exact Ev.pos c1 (Ev.pos (by omega) keep)
   ·refine Ev.neg c1 ?_;by_cases c2:b.f0≥lo+sz
    ·rw[if_pos (Or.inr c2)];exact Ev.pos c2 (Ev.pos (by omega) keep)
    ·rw[if_neg (by omega),List.append_nil];exact Ev.neg c2 (Rg h fx bx hl g0 lo sz jS size h0 h1 h2 h3 h4 h5 rest (i+1) CU d3 (by omega) (by omega))
  refine Ev.succ ?_;simp only[eU.l0,er];rw[ef];refine Ev.pos (by omega) (Ev.pos (by omega) ?_);by_cases c:b.f0=lo
  ·rw[if_pos c];refine Ev.pos c (Ev.pos (by omega) (Ev.bind (Ev.ret _) ?_));(have la:(acc++gC lo sz jS size).length≤3*i+2:=by rw[List.length_append];omega);have Dz:=last (acc++gC lo sz jS size) la;by_cases d:size<sz
   ·refine Ev.pos d (Ev.pos (by simp;omega) ?_);rw[wid (lo+size) (by omega) (by omega),wid (sz-size) (by omega) (by omega)];(have en:gC lo sz jS size= [⟨lo,size,jS,false⟩]++ [⟨lo+size,sz-size,0,false⟩]:=by unfold gC;rw[if_pos d];rfl);rw[en]at Dz⊢;simp only[List.append_assoc]at Dz⊢;exact Dz
   ·refine Ev.neg d ?_;(have en:gC lo sz jS size= [⟨lo,size,jS,false⟩]:=by unfold gC;rw[if_neg d]);rw[en]at Dz⊢;simp only[List.append_assoc]at Dz⊢;exact Dz
  ·rw[if_neg c,List.nil_append];refine Ev.neg c ((last acc (by omega)).to ?_);simp only[List.append_assoc]
theorem ak2(h:Int)(fx:List Int)(hf:fx.length≤1048576)(bx:List aj)(hl:bx.length≤24)(g0 lo sz jS size:Int)(h0:0≤lo)(h1:lo≤1000)(h2:0≤sz)(h3:sz≤1000)(h4:0≤size)(h5:size≤1000):
  Ev (fun k=>eU.f k h fx bx g0 lo sz jS size) (h,fx,mD lo sz (gC lo sz jS size) bx):=by
 unfold eU.f;refine Ev.bind (Ev.ret _) (Ev.pos (by simp;omega) ?_);exact Rg h fx bx hl g0 lo sz jS size h0 h1 h2 h3 h4 h5 bx 0 [] rfl (by omega) (by simp)
def K7(bx:List aj)(g:aQ):List aj:=mD g.f1 g.f2 (gC g.f1 g.f2 0 g.f2) bx
theorem aqN(lo sz p:Int):gC lo sz p sz= [⟨lo,sz,p,false⟩]:=by unfold gC;rw[if_neg (by omega)]
structure Ex(h:Int)(fx:List Int)(G:List aQ)(bx:List aj):Prop where
 hi:h≤24
 lA:hO 0 bx h
 gaps:gj fx bx=G
theorem Ex.len{h:Int}{fx:List Int}{G:List aQ}{bx:List aj}(c:Ex h fx G bx):bx.length≤24∧(∀b ∈ bx,1≤b.f1∧b.f1≤24):=by
 have:=pJ _ _ _ c.lA;have:=c.hi;refine⟨by omega,fun b hb=>?_⟩;have:=xx _ _ _ c.lA b hb;omega
theorem Ex.step{h:Int}{fx:List Int}{G:List aQ}{bx:List aj}(c:Ex h fx G bx)(g:aQ)(hg:g ∈ G):
  Ex h fx G (K7 bx g)∧(0≤g.f1∧1≤g.f2∧g.f1+g.f2≤24)∧qI g.f1 [⟨g.f1,g.f2,0,false⟩] bx (jP fx [] [] bx)=K7 bx g:=by
 (have hg':g ∈ gj fx bx:=by rw[c.gaps];exact hg);obtain⟨A,R,B,hr,e,h1,h2⟩:=ZJ fx bx 0 h c.lA g hg';have hp:=ak5 fx bx 0 h c.lA g hg';have ec:K7 bx g=A++ [⟨g.f1,g.f2,0,false⟩]++B:=by
  unfold K7;rw[aqN,h1]
 (have e1:g.f1=fl R:=by rw[e]);(have e2:g.f2=dR R:=by rw[e]);have ht:=c.lA;rw[←hr.all]at ht;have hN:hO (fl R) [⟨g.f1,g.f2,0,false⟩] (fl R+dR R):=⟨e1,hp.1,by show fl R+g.f2=_;rw[e2]⟩;refine⟨⟨c.hi,?_,?_⟩,?_,?_⟩
 ·rw[ec];exact VK ht hr.ne hN
 ·rw[ec,Vu hr [(aj.mk g.f1 g.f2 0 false)] (by simp) (Or.inl e1)];have eg:gj fx [(aj.mk g.f1 g.f2 0 false)]= [gM R]:=by
   have eo:iZ (aj.mk g.f1 g.f2 0 false)=true:=rfl;unfold gj;simp only[dS];rw[if_pos eo,if_neg (fun c=>c.1 rfl)];have Le:dW []= []:=rfl;(have Q6:dW [(aj.mk g.f1 g.f2 0 false)]= [gM [(aj.mk g.f1 g.f2 0 false)]]:=by unfold dW;rw[if_neg (by simp)]);(have es:dR [(aj.mk g.f1 g.f2 0 false)]=g.f2:=by rw[nB,ku];exact Int.add_zero _);rw[Le,Q6,List.nil_append,wh (by simp),wh hr.ne,es,←e2,←e1];rfl
  rw[eg,←aeo hr];exact c.gaps
 ·have hm:=xx _ _ _ ht;rw[xw,xw]at ht;obtain⟨⟨ha,hb⟩,hc⟩:=ht;have s1:=pJ _ _ _ ha;have s3:=pJ _ _ _ hc;rw[uk]at s3;have hR:=hr.ne;have er:fl R=0+dR A:=by
   cases R with
   |nil=>exact absurd rfl hR
   |cons x R=>exact hb.1
  have:=c.hi;(have hBn:(0:Int)≤(B.length:Int):=by omega);omega
 ·rw[h2,ec]
theorem adn: ∀(l:List aG) (p i:Int),0≤i→(nt l p i= -1∧ ∀c ∈ l,g7 c.f2 p 0<0)∨ ∃l1 c l2,l=l1++c::l2∧0≤g7 c.f2 p 0∧(∀x ∈ l1,g7 x.f2 p 0<0)∧nt l p i=i+l1.length
 | [],p,i,_=>Or.inl ⟨rfl,by simp⟩
 |b::l,p,i,hi=>by
  simp only[nt];by_cases c:0≤g7 b.f2 p 0
  ·rw[if_pos c];exact Or.inr ⟨[],b,l,rfl,c,by simp,by simp⟩
  ·rw[if_neg c];rcases adn l p (i+1) (by omega)with⟨h1,h2⟩|⟨l1,x,l2,h1,h2,h3,h4⟩
   ·exact Or.inl ⟨h1,fun y hy=>by
     rcases List.mem_cons.mp hy with rfl|hy
     ·omega
     ·exact h2 y hy⟩
   ·refine Or.inr ⟨b::l1,x,l2,by rw[h1];rfl,h2,fun y hy=>?_,by rw[h4,List.length_cons];omega⟩;rcases List.mem_cons.mp hy with rfl|hy
    ·omega
    ·exact h3 y hy
def rM(cs:List aG)(p:Int):Int→Int×Int
 |i=>match cs with
  | []=>(-1,-1)
  |c::cs=>if 0≤mY c.f2 p then(i,(ah c.f2 (mY c.f2 p)).f0)else rM cs p (i+1)
def zQ(cs:List aG)(p:Int):Int×Int:=if k6 cs=true then rM cs p 0 else(-1,-1)
theorem ai9(l:List aj)(p:Int):mY l p<l.length:=by
 unfold mY;split
 ·rcases adp l p with⟨h,_⟩|⟨l1,b,l2,h1,_,_,h4⟩
  ·rw[h];omega
  ·rw[h4,h1];simp;omega
 ·omega
theorem YI(cs:List aG)(hs:Small cs)(p:Int)(hb:k6 cs=true): ∀(rest:List aG) (i:Nat),cs.drop i=rest→i≤cs.length→Ev (fun k=>iz.l0 k cs p (i:Int)) (rM rest p (i:Int))
 | [],i,hd,hi=>by
  have he:=jE hd hi;have hl:=hs.1;refine Ev.succ ?_;simp only[iz.l0];refine Ev.neg (by omega) (Ev.succ ?_);simp only[iz.j1];exact Ev.neg (by simp) ((Ev.ret _).to (by simp[rM]))
 |c::rest,i,hd,hi=>by
  obtain⟨h1,h2,h3⟩:=jF ep hd;have er:av cs (i:Int)=c:=h2;(have hc:c ∈ cs:=by rw[←h2,m6 _ h1];exact List.getElem_mem _);have hl:=hs.1;have hlt:=ai9 c.f2 p;have ih:=YI cs hs p hb rest (i+1) h3 (by omega);refine Ev.succ ?_;simp only[iz.l0];refine Ev.pos (by omega) (Ev.bind (PY cs hs) (Ev.succ ?_));simp only[iz.j1,er];refine Ev.pos hb (Ev.pos (by omega) (Ev.pos (by omega) (Ev.bind (YM _ _ _ (hs.2 c hc).2 p) ?_)));rw[eY i (by omega)];by_cases d:mY c.f2 p≥0
  ·refine Ev.pos d (Ev.pos d (Ev.pos hlt ((Ev.ret _).to ?_)));simp only[rM];rw[if_pos d]
  ·refine Ev.neg d (ih.to ?_);rw[rM];rw[if_neg (by omega)];rfl
theorem ajb(cs:List aG)(hs:Small cs)(p:Int):Ev (fun k=>iz.f k cs p) (zQ cs p):=by
 unfold iz.f zQ;by_cases hb:k6 cs=true
 ·rw[if_pos hb];exact YI cs hs p hb cs 0 rfl (by omega)
 ·rw[if_neg hb];(have cj:k6 cs=false:=by simpa using hb);have fin:Ev (fun k=>iz.j1 k cs p 0 false) (-1,-1):=by
   refine Ev.succ ?_;simp only[iz.j1];exact Ev.neg (by simp) (Ev.ret _)
  refine Ev.succ ?_;simp only[iz.l0];by_cases c:(0:Int)<cs.length
  ·refine Ev.pos c (Ev.bind (PY cs hs) ?_);rw[cj];exact fin
  ·exact Ev.neg c fin
theorem ZC: ∀(cs:List aG) (p i:Int),(∀c ∈ cs,mY c.f2 p<0)→rM cs p i=(-1,-1)
 | [],p,i,_=>rfl
 |c::cs,p,i,h=>by
  have:=h c (by simp);rw[rM];rw[if_neg (by omega)];exact ZC cs p (i+1) (fun d hd=>h d (by simp[hd]))
theorem ZB: ∀(l1:List aG) (c:aG) (l2:List aG) (p i:Int),(∀x ∈ l1,mY x.f2 p<0)→0≤mY c.f2 p→rM (l1++c::l2) p i=(i+l1.length,(ah c.f2 (mY c.f2 p)).f0)
 | [],c,l2,p,i,_,h=>by
  rw[List.nil_append,rM];rw[if_pos h];simp
 |x::l1,c,l2,p,i,hx,h=>by
  have:=hx x (by simp);rw[List.cons_append,rM];rw[if_neg (by omega),ZB l1 c l2 p (i+1) (fun y hy=>hx y (by simp[hy])) h,List.length_cons]
  congr 1
  omega
theorem ad9(l:List aj):pF [] l↔(∀b ∈ l,0≤b.f2∧b.f2≤999)∧l.Pairwise (fun a b=>0<b.f2→a.f2≠b.f2):=by
 rw[U0];constructor
 ·rintro⟨h1,_,h3⟩;exact⟨h1,h3⟩
 ·rintro⟨h1,h3⟩;exact⟨h1,fun _ _ _=>by simp,h3⟩
theorem aq9{A N B:List aj}(hN: ∀b ∈ N,b.f2=0):pF [] (A++N++B)↔pF [] (A++B):=by
 rw[ad9,ad9,List.append_assoc,List.pairwise_append,List.pairwise_append,List.pairwise_append];constructor
 ·rintro⟨h1,h2,⟨_,h3,_⟩,h4⟩;refine⟨fun b hb=>h1 b ?_,h2,h3,fun a ha b hb=>h4 a ha b (by simp[hb])⟩;rcases List.mem_append.mp hb with hb|hb<;>simp[hb]
 ·rintro⟨h1,h2,h3,h4⟩;refine⟨fun b hb=>?_,h2,⟨?_,h3,fun a ha b hb h0=>?_⟩,fun a ha b hb h0=>?_⟩
  ·rcases List.mem_append.mp hb with hb|hb
   ·exact h1 b (by simp[hb])
   ·rcases List.mem_append.mp hb with hb|hb
    ·rw[hN b hb];omega
    ·exact h1 b (by simp[hb])
  ·exact List.pairwise_of_forall_mem_list (fun a ha b hb h0=>by rw[hN b hb]at h0;omega)
  ·rw[hN a ha];omega
  ·rcases List.mem_append.mp hb with hb|hb
   ·rw[hN b hb]at h0;omega
   ·exact h4 a ha b hb h0
theorem qZ.put{h:Int}{fx:List Int}{bx A R B N:List aj}(v:qZ h fx bx)(hr:pY fx bx A R B)(hN:hO (fl R) N (fl R+dR R))(hne:N≠ [])(hp:pF [] (A++N++B)):qZ h fx (A++N++B):=by
 have ht:=v.lA;rw[←hr.all]at ht;refine⟨v.hi,VK ht hr.ne hN,hp,v.fix,fun f hf=>?_⟩;obtain⟨b,hb,e⟩:=v.low f hf;rw[←hr.all]at hb;rcases List.mem_append.mp hb with hb|hb
 ·rcases List.mem_append.mp hb with hb|hb
  ·exact⟨b,by simp[hb],e⟩
  ·have hfree:=hr.free;have hlo:fl R=f:=by
    cases R with
    |nil=>exact absurd rfl hr.ne
    |cons r R=>
     rcases List.mem_cons.mp hb with rfl|hb
     ·exact e
     ·exact absurd (by rw[e];exact hf) (hfree b hb)
   cases N with
   |nil=>exact absurd rfl hne
   |cons n N=>exact⟨n,by simp,by rw[hN.1,hlo]⟩
 ·exact⟨b,by simp[hb],e⟩
theorem pY.zero{fx:List Int}{bx A R B:List aj}(hr:pY fx bx A R B): ∀b ∈ R,b.f2=0:=by
 intro b hb;have:=hr.opn b hb;unfold iZ at this;simp only[Bool.and_eq_true,decide_eq_true_eq]at this;exact this.1
theorem pY.pF{h:Int}{fx:List Int}{bx A R B:List aj}(v:qZ h fx bx)(hr:pY fx bx A R B):pF [] (A++B):=by
 have:=v.par;rw[←hr.all]at this;exact(aq9 hr.zero).mp this
theorem aqO{lo sz p size:Int}(h1:1≤size)(h2:size≤sz):hO lo (gC lo sz p size) (lo+sz):=by
 unfold gC;by_cases c:size<sz
 ·rw[if_pos c];exact⟨rfl,h1,rfl,by show 1≤sz-size;omega,by show lo+size+(sz-size)=_;omega⟩
 ·rw[if_neg c];exact⟨rfl,h1,by show lo+size=_;omega⟩
theorem qZ.ne{h:Int}{fx:List Int}{bx:List aj}(v:qZ h fx bx):0<bx.length:=by
 cases bx with
 |nil=>
  have:=v.lA;have:=v.hi;simp only[hO]at*;omega
 |cons x l=>simp
def kQ:Option aQ→Int×Int×Int×Bool
 |none=>(0,0,0,false)
 |some g=>(g.f0,g.f1,g.f2,true)
theorem adH(l:List aQ)(hl:l.length≤1048576)(size:Int): ∀(rest:List aQ) (i:Nat) (best:Option aQ),l.drop i=rest→i≤l.length→
  Ev (fun k=>lg.l0 k size (kQ best).2.2.2 l (l.length:Int) (i:Int) (kQ best).1 (kQ best).2.1 (kQ best).2.2.1) (kQ (nZ size best rest))
 | [],i,best,hd,hi=>by
  have he:=jE hd hi;refine Ev.succ ?_;simp only[lg.l0,nZ];exact Ev.neg (by omega) (Ev.ret _)
 |g::rest,i,best,hd,hi=>by
  obtain⟨h1,h2,h3⟩:=jF vD hd;have er:bX l (i:Int)=g:=h2;have ih:=fun best=>adH l hl size rest (i+1) best h3 (by omega);have ih1:=ih (some g);have ih0:=ih best;refine Ev.succ ?_;simp only[lg.l0,er,nZ];rw[eY i (by omega)];refine Ev.pos (by omega) (Ev.pos (by omega) (Ev.pos (by omega) ?_));by_cases c:g.f2≥size
  ·refine Ev.pos c ?_;cases best with
   |none=>
    rw[if_pos ⟨c,fun b hb=>by cases hb⟩];exact Ev.neg (by simp[kQ]) ih1
   |some b=>
    refine Ev.pos (by simp[kQ]) ?_;by_cases d:g.f2<b.f2
    ·rw[if_pos ⟨c,fun b' hb=>by cases hb;exact d⟩];exact Ev.pos d ih1
    ·rw[if_neg (fun e=>d (e.2 b rfl))];exact Ev.neg d ih0
  ·rw[if_neg (fun e=>c e.1)];exact Ev.neg c ih0
theorem aqE(l:List aQ)(hl:l.length≤1048576)(size:Int):Ev (fun k=>lg.f k l size) (kQ (lp size l)):=by
 unfold lg.f lp;by_cases c:size<1
 ·rw[if_pos c];exact Ev.pos c (Ev.ret _)
 ·rw[if_neg c];exact Ev.neg c (adH l hl size l 0 none rfl (by omega))
structure pP(size:Int)(l l1:List aQ)(g:aQ)(l2:List aQ):Prop where
 all:l=l1++g::l2
 enough:size≤g.f2
 ahead: ∀x ∈ l1,x.f2<size∨g.f2<x.f2
 behind: ∀x ∈ l2,x.f2<size∨g.f2≤x.f2
theorem pP.uniq{size:Int}: ∀{l1 Js:List aQ} {l:List aQ} {g g':aQ} {l2 AU:List aQ},pP size l l1 g l2→pP size l Js g' AU→l1=Js∧g=g'∧l2=AU
 | [],[],l,g,g',l2,AU,h,h'=>by
  have e:=h.all.symm.trans h'.all;simp at e;exact⟨rfl,e.1,e.2⟩
 | [],x::Js,l,g,g',l2,AU,h,h'=>by
  have e:=h.all.symm.trans h'.all;simp at e;have a:=h'.ahead x (by simp);have b:=h.behind g' (by rw[e.2];simp);have c:=h.enough;have d:=h'.enough;rw[←e.1]at a;omega
 |x::l1,[],l,g,g',l2,AU,h,h'=>by
  have e:=h.all.symm.trans h'.all;simp at e;have a:=h.ahead x (by simp);have b:=h'.behind g (by rw[←e.2];simp);have c:=h.enough;have d:=h'.enough;rw[e.1]at a;omega
 |x::l1,y::Js,l,g,g',l2,AU,h,h'=>by
  have e:=h.all.symm.trans h'.all;simp at e;have k:pP size (l1++g::l2) l1 g l2:=⟨rfl,h.enough,fun z hz=>h.ahead z (by simp[hz]),h.behind⟩;have k':pP size (l1++g::l2) Js g' AU:=⟨e.2,h'.enough,fun z hz=>h'.ahead z (by simp[hz]),h'.behind⟩;obtain⟨a,b,c⟩:=pP.uniq k k';exact⟨by rw[e.1,a],b,c⟩
theorem aqC{size:Int}{l l1:List aQ}{g:aQ}{l2:List aQ}(h:pP size l l1 g l2):nZ size none l=some g:=by
 rcases MN size l with⟨_,h2⟩|⟨k1,y,k2,h0,h1,h2,h4,h5⟩
 ·have:=h2 g (by rw[h.all];simp);have:=h.enough;omega
 ·obtain⟨_,e,_⟩:=pP.uniq h ⟨h0,h2,h4,h5⟩;rw[h1,e]
theorem aqD{size:Int}{l:List aQ}(h: ∀x ∈ l,x.f2<size):nZ size none l=none:=by
 rcases MN size l with⟨h1,_⟩|⟨k1,y,k2,h0,h1,h2,h4,h5⟩
 ·exact h1
 ·have:=h y (by rw[h0];simp);omega
theorem adG(l:List aQ)(hl:l.length≤1048576)(size:Int): ∀(rest:List aQ) (i:Nat) (x:Int),l.drop i=rest→i≤l.length→
  ((x= -1∧ ∀y ∈ l.take i,y.f2<size)∨ ∃l1 g l2,pP size (l.take i) l1 g l2∧x=(l1.length:Int))→
  ∃r:Int,Ev (fun k=>jy.l0 k l size x (i:Int)) r∧((r= -1∧ ∀y ∈ l,y.f2<size)∨ ∃l1 g l2,pP size l l1 g l2∧r=(l1.length:Int))
 | [],i,x,hd,hi,hx=>by
  have he:=jE hd hi;refine⟨x,Ev.succ ?_,?_⟩
  ·simp only[jy.l0];exact Ev.neg (by omega) (Ev.ret _)
  ·rw[he,List.take_length]at hx;exact hx
 |g::rest,i,x,hd,hi,hx=>by
  obtain⟨h1,h2,h3⟩:=jF vD hd;have er:bX l (i:Int)=g:=h2;have et:l.take (i+1)=l.take i++ [g]:=by
   rw[List.take_add_one,←h2,List.getD_eq_getElem?_getD,List.getElem?_eq_getElem h1];rfl
  have ih:=fun y=>adG l hl size rest (i+1) y h3 (by omega);have new:size≤g.f2→(∀y ∈ l.take i,y.f2<size∨g.f2<y.f2)→((i:Int)= -1∧ ∀y ∈ l.take (i+1),y.f2<size)∨ ∃l1 g' l2,pP size (l.take (i+1)) l1 g' l2∧(i:Int)=(l1.length:Int):=by
   intro a b;exact Or.inr ⟨l.take i,g,[],⟨et,a,b,by simp⟩,by rw[List.length_take];omega⟩
  rcases hx with⟨hx,hn⟩|⟨l1,b,l2,hb,hx⟩
  ·by_cases c:g.f2≥size
   ·obtain⟨r,hr,hp⟩:=ih (i:Int) (new c (fun y hy=>Or.inl (hn y hy)));refine⟨r,Ev.succ ?_,hp⟩;simp only[jy.l0,er];rw[eY i (by omega)];exact Ev.pos (by omega) (Ev.pos (by omega) (Ev.pos c (Ev.pos (by omega) hr)))
   ·obtain⟨r,hr,hp⟩:=ih x (Or.inl ⟨hx,fun y hy=>by
     rw[et]at hy;rcases List.mem_append.mp hy with hy|hy
     ·exact hn y hy
     ·rw[List.mem_singleton.mp hy];omega⟩)
    refine⟨r,Ev.succ ?_,hp⟩;simp only[jy.l0,er];rw[eY i (by omega)];exact Ev.pos (by omega) (Ev.pos (by omega) (Ev.neg c hr))
  ·have hlen:l1.length<i:=by
    have:=congrArg List.length hb.all;rw[List.length_take]at this;simp at this;omega
   have eb:bX l x=b:=by
    rw[hx];show l.getD l1.length _=b;have e1:l.getD l1.length vD=(l.take i).getD l1.length vD:=by
     rw[List.getD_eq_getElem?_getD,List.getD_eq_getElem?_getD,List.getElem?_take_of_lt hlen]
    rw[e1,hb.all,List.getD_eq_getElem?_getD,List.getElem?_append_right (Nat.le_refl _),Nat.sub_self];rfl
   have old:(g.f2<size∨b.f2≤g.f2)→(x= -1∧ ∀y ∈ l.take (i+1),y.f2<size)∨ ∃l1 g' l2,pP size (l.take (i+1)) l1 g' l2∧x=(l1.length:Int):=by
    intro a;refine Or.inr ⟨l1,b,l2++ [g],⟨by rw[et,hb.all];simp,hb.enough,hb.ahead,fun y hy=>?_⟩,hx⟩;rcases List.mem_append.mp hy with hy|hy
    ·exact hb.behind y hy
    ·rw[List.mem_singleton.mp hy];exact a
   by_cases c:g.f2≥size
   ·by_cases d:g.f2<b.f2
    ·obtain⟨r,hr,hp⟩:=ih (i:Int) (new c (fun y hy=>by
      rw[hb.all]at hy;rcases List.mem_append.mp hy with hy|hy
      ·have:=hb.ahead y hy;omega
      ·rcases List.mem_cons.mp hy with rfl|hy
       ·exact Or.inr d
       ·have:=hb.behind y hy;omega))
     refine⟨r,Ev.succ ?_,hp⟩;simp only[jy.l0,er,eb];rw[eY i (by omega)];exact Ev.pos (by omega) (Ev.pos (by omega) (Ev.pos c (Ev.neg (by omega) (Ev.pos (by omega) (Ev.pos (by omega) (Ev.pos d hr))))))
    ·obtain⟨r,hr,hp⟩:=ih x (old (by omega));refine⟨r,Ev.succ ?_,hp⟩;simp only[jy.l0,er,eb];rw[eY i (by omega)];exact Ev.pos (by omega) (Ev.pos (by omega) (Ev.pos c (Ev.neg (by omega) (Ev.pos (by omega) (Ev.pos (by omega) (Ev.neg d hr))))))
   ·obtain⟨r,hr,hp⟩:=ih x (old (by omega));refine⟨r,Ev.succ ?_,hp⟩;simp only[jy.l0,er];rw[eY i (by omega)];exact Ev.pos (by omega) (Ev.pos (by omega) (Ev.neg c hr))
theorem aqB(l:List aQ)(hl:l.length≤1048576)(size:Int): ∃r:Int,Ev (fun k=>jy.f k l size) r∧((r= -1∧ ∀y ∈ l,y.f2<size)∨ ∃l1 g l2,pP size l l1 g l2∧r=(l1.length:Int)):=by
 unfold jy.f;exact adG l hl size l 0 (-1) rfl (by omega) (Or.inl ⟨rfl,by simp⟩)
theorem ak4(l:List aQ)(hl:l.length≤1048576)(size:Int): ∃r:Int,Ev (fun k=>jy.f k l size) r∧
  Ev (fun _=>if size<1 then some (0,0,0,false)else(if r<0 then some (0,0,0,false)else(if 0≤r then(if r<(l.length:Int)then some ((bX l r).f0,(bX l r).f1,(bX l r).f2,true)else none)else none))) (kQ (lp size l)):=by
 obtain⟨r,h1,h2⟩:=aqB l hl size;refine⟨r,h1,?_⟩;by_cases c:size<1
 ·(have e:lp size l=none:=by unfold lp;rw[if_pos c]);rw[e];exact Ev.pos c (Ev.ret _)
 ·refine Ev.neg c ?_;(have e:lp size l=nZ size none l:=by unfold lp;rw[if_neg c]);rw[e];rcases h2 with⟨h2,h3⟩|⟨l1,g,l2,h2,h3⟩
  ·rw[aqD h3];exact Ev.pos (by omega) (Ev.ret _)
  ·rw[aqC h2];have hlen:=congrArg List.length h2.all;simp at hlen;have eb:bX l r=g:=by
    rw[h3];show l.getD l1.length _=g;rw[h2.all,List.getD_eq_getElem?_getD,List.getElem?_append_right (Nat.le_refl _),Nat.sub_self];rfl
   rw[eb];exact Ev.neg (by omega) (Ev.pos (by omega) (Ev.pos (by omega) (Ev.ret _)))
def WQ(a b:aQ):Prop:=a.f0<b.f0∨(a.f0=b.f0∧a.f1<b.f1)
theorem Yx: ∀(cs:List aG) (k:Int),∀g ∈ fX k cs,k≤g.f0
 | [],_,g,hg=>by simp[fX]at hg
 |c::cs,k,g,hg=>by
  rw[fX]at hg;rcases List.mem_append.mp hg with hg|hg
  ·obtain⟨x,_,rfl⟩:=List.mem_map.mp hg;exact Int.le_refl _
  ·have:=Yx cs (k+1) g hg;omega
theorem Yw: ∀(cs:List aG) (k:Int),(∀c ∈ cs,∃h,hO 0 c.f2 h)→(fX k cs).Pairwise WQ
 | [],_,_=>List.Pairwise.nil
 |c::cs,k,h=>by
  obtain⟨hi,ht⟩:=h c (by simp);rw[fX,List.pairwise_append];refine⟨?_,Yw cs (k+1) (fun d hd=>h d (by simp[hd])),fun a ha b hb=>?_⟩
  ·rw[List.pairwise_map];have:=(FW c.f1 c.f2 [] 0 hi ht (fun c=>absurd rfl c)).1;exact List.Pairwise.imp (fun hab=>Or.inr ⟨rfl,hab⟩) this
  ·obtain⟨x,_,rfl⟩:=List.mem_map.mp ha;have:=Yx cs (k+1) b hb;exact Or.inl (by show k<b.f0;omega)
theorem Yv: ∀(a b:List aG) (k:Int),fX k (a++b)=fX k a++fX (k+a.length) b
 | [],b,k=>by simp[fX]
 |c::a,b,k=>by
  rw[List.cons_append,fX,fX,Yv a b (k+1),List.append_assoc,List.length_cons]
  congr 3
  omega
theorem Lr(fx:List Int): ∀(bs cur:List aj),∀g ∈ dS fx cur bs,g.f0=0
 | [],cur,g,hg=>by
  simp only[dS,dW]at hg;split at hg
  ·simp at hg
  ·next h=>rw[List.mem_singleton.mp hg,wh h]
 |b::bs,cur,g,hg=>by
  have em: ∀g ∈ dW cur,g.f0=0:=by
   intro g hg;unfold dW at hg;split at hg
   ·simp at hg
   ·next h=>rw[List.mem_singleton.mp hg,wh h]
  simp only[dS]at hg;split at hg
  ·split at hg
   ·exact Lr fx bs _ g hg
   ·rcases List.mem_append.mp hg with hg|hg
    ·exact em g hg
    ·exact Lr fx bs _ g hg
  ·rcases List.mem_append.mp hg with hg|hg
   ·exact em g hg
   ·exact Lr fx bs _ g hg
theorem Yz: ∀(cs:List aG) (k:Int) (g:aQ),g ∈ fX k cs→ ∃C1 c C2,cs=C1++c::C2∧g.f0=k+C1.length∧(aQ.mk 0 g.f1 g.f2)∈ gj c.f1 c.f2
 | [],_,g,hg=>by simp[fX]at hg
 |c::cs,k,g,hg=>by
  rw[fX]at hg;rcases List.mem_append.mp hg with hg|hg
  ·obtain⟨x,hx,rfl⟩:=List.mem_map.mp hg;refine⟨[],c,cs,rfl,by simp,?_⟩;have:=Lr c.f1 c.f2 [] x hx;(have e:(aQ.mk 0 x.f1 x.f2)=x:=by rw[←this]);rw[e];exact hx
  ·obtain⟨C1,d,C2,h1,h2,h3⟩:=Yz cs (k+1) g hg;exact⟨c::C1,d,C2,by rw[h1];rfl,by rw[h2,List.length_cons];omega,h3⟩
structure EC(cs:List aG):Prop where
 len:cs.length≤6
 fix: ∀c ∈ cs,c.f1.length≤1048576
 lA: ∀c ∈ cs,∃h,h≤24∧hO 0 c.f2 h
theorem EC.flat{cs:List aG}(g:EC cs):Flat cs:=by
 refine⟨g.len,g.fix,fun c hc=>?_,fun c hc b hb=>?_⟩
 ·obtain⟨h,h1,h2⟩:=g.lA c hc;have:=pJ _ _ _ h2;omega
 ·obtain⟨h,h1,h2⟩:=g.lA c hc;have:=xx _ _ _ h2 b hb;omega
theorem Ew.geo{cs:List aG}(v:Ew cs)(hs:Small cs):EC cs:=
 ⟨by have:=v.len;omega,fun c hc=>(hs.2 c hc).1,fun c hc=>⟨c.f0,((zY _ _ _).mp (v.col c hc)).hi.2,((zY _ _ _).mp (v.col c hc)).lA⟩⟩
def qR(g:aQ)(p s:Int)(c:aG):aG:=⟨c.f0,c.f1,qI g.f1 (gC g.f1 g.f2 p s) c.f2 (jP c.f1 [] [] c.f2)⟩
def aem(g:aQ)(s:Int):List aQ:=if s<g.f2 then[⟨g.f0,g.f1+s,g.f2-s⟩]else[]
theorem ai0{cs:List aG}(hg:EC cs){g:aQ}(hm:g ∈ fX 0 cs){p s:Int}(hp:p≠0)(hs:1≤s)(hle:s≤g.f2):
  ∃C1 c C2 P Q A R B h,cs=C1++c::C2∧g.f0=C1.length∧fX 0 cs=P++g::Q∧fX 0 (C1++qR g p s c::C2)=P++aem g s++Q∧EC (C1++qR g p s c::C2)∧g ∉ P∧
   (0≤g.f1∧g.f1+g.f2≤24)∧pY c.f1 c.f2 A R B∧g.f1=fl R∧g.f2=dR R∧hO 0 c.f2 h∧(qR g p s c).f2=A++gC g.f1 g.f2 p s++B∧(∀N,mD g.f1 g.f2 N c.f2=A++N++B):=by
 obtain⟨C1,c,C2,h1,h2,h3⟩:=Yz cs 0 g hm;(have hc:c ∈ cs:=by rw[h1];simp);obtain⟨h,hh,ht⟩:=hg.lA c hc;obtain⟨A,R,B,hr,e,f1,f2⟩:=ZJ c.f1 c.f2 0 h ht _ h3;simp only[aQ.mk.injEq]at e;obtain⟨_,e1,e2⟩:=e;dsimp only at f1 f2;(have hN:hO (fl R) (gC g.f1 g.f2 p s) (fl R+dR R):=by rw[←e1,←e2];exact aqO hs hle);have akB:Cut c.f1 (gC g.f1 g.f2 p s):=by
  unfold gC;refine Or.inl ?_;unfold iZ;dsimp only;rw[decide_eq_false hp];rfl
 have eGN:gj c.f1 (gC g.f1 g.f2 p s)=if s<g.f2 then[⟨0,g.f1+s,g.f2-s⟩]else[]:=by
  have o1:iZ (aj.mk g.f1 s p false)=false:=by
   unfold iZ;dsimp only;rw[decide_eq_false hp];rfl
  have o2:iZ (aj.mk (g.f1+s) (g.f2-s) 0 false)=true:=rfl;have Le:dW []= []:=rfl;unfold gj gC;by_cases d:s<g.f2
  ·rw[if_pos d,if_pos d];simp only[dS];rw[if_neg (by rw[o1];simp),if_pos o2,if_neg (fun c=>c.1 rfl),Le];(have Q6:dW [(aj.mk (g.f1+s) (g.f2-s) 0 false)]= [gM [(aj.mk (g.f1+s) (g.f2-s) 0 false)]]:=by unfold dW;rw[if_neg (by simp)]);(have es:dR [(aj.mk (g.f1+s) (g.f2-s) 0 false)]=g.f2-s:=by rw[nB,ku];exact Int.add_zero _);rw[Q6,wh (by simp),es];rfl
  ·rw[if_neg d,if_neg d];simp only[dS];rw[if_neg (by rw[o1];simp),Le];rfl
 have Rd:(qR g p s c).f2=A++gC g.f1 g.f2 p s++B:=f2 _;have akC:gj c.f1 (qR g p s c).f2=gj c.f1 A++(if s<g.f2 then[⟨0,g.f1+s,g.f2-s⟩]else[])++gj c.f1 B:=by
  rw[Rd,Vu hr _ (by unfold gC;simp) (Or.inr akB),eGN]
 have eg:(aQ.mk g.f0 g.f1 g.f2)=g:=rfl;have aas: ∀d:aG,fX 0 (C1++d::C2)=fX 0 C1++(gj d.f1 d.f2).map (fun x=>⟨g.f0,x.f1,x.f2⟩)++fX (g.f0+1) C2:=by
  intro d;rw[Yv,fX,h2,List.append_assoc]
 have hP:fX 0 cs=(fX 0 C1++(gj c.f1 A).map (fun x=>⟨g.f0,x.f1,x.f2⟩))++g::((gj c.f1 B).map (fun x=>⟨g.f0,x.f1,x.f2⟩)++fX (g.f0+1) C2):=by
  rw[h1,aas,aeo hr,wh hr.ne,←e1,←e2];simp
 refine⟨C1,c,C2,_,_,A,R,B,h,h1,by rw[h2];omega,hP,?_,⟨?_,?_,?_⟩,?_,?_,hr,e1,e2,ht,Rd,f1⟩
 ·rw[aas,show(qR g p s c).f1=c.f1 from rfl,akC];unfold aem;split<;>simp
 ·have:=hg.len;rw[h1]at this;simpa using this
 ·intro d hd;rcases List.mem_append.mp hd with hd|hd
  ·exact hg.fix d (by rw[h1];simp[hd])
  ·rcases List.mem_cons.mp hd with rfl|hd
   ·exact hg.fix c hc
   ·exact hg.fix d (by rw[h1];simp[hd])
 ·intro d hd;rcases List.mem_append.mp hd with hd|hd
  ·exact hg.lA d (by rw[h1];simp[hd])
  ·rcases List.mem_cons.mp hd with rfl|hd
   ·refine⟨h,hh,?_⟩;rw[Rd];have H7:=ht;rw[←hr.all]at H7;exact VK H7 hr.ne hN
   ·exact hg.lA d (by rw[h1];simp[hd])
 ·intro hin;have aar:=Yw cs 0 (fun d hd=>by obtain⟨x,_,hx⟩:=hg.lA d hd;exact⟨x,hx⟩);rw[hP,List.pairwise_append]at aar;have:=aar.2.2 g hin g (by simp);unfold WQ at this;omega
 ·have H7:=ht;rw[←hr.all,xw,xw]at H7;obtain⟨⟨ha,hb⟩,Lw⟩:=H7;have s1:=pJ _ _ _ ha;have s3:=pJ _ _ _ Lw;rw[uk]at s3;have er:fl R=0+dR A:=by
   have hne:=hr.ne;cases R with
   |nil=>exact absurd rfl hne
   |cons x R=>exact hb.1
  rw[e1,e2];omega
theorem ara(h:Int)(fx:List Int)(hf:fx.length≤1048576)(bx:List aj)(hl:bx.length≤24)(hm: ∀b ∈ bx,1≤b.f1∧b.f1≤24)(g0 lo sz p size:Int)(h0:0≤lo∧lo≤1000)(h1:0≤sz∧sz≤1000)(h2:0≤size∧size≤1000):
  Ev (fun k=>AO.f k h fx bx g0 lo sz p size) (h,fx,qI lo (gC lo sz p size) bx (jP fx [] [] bx)):=by
 unfold AO.f;refine Ev.bind (Ev.ret _) ?_;have hn:=Uw lo sz p size;have hF:=ak3 h fx hf bx hl hm lo (gC lo sz p size) (by omega);by_cases c:sz>size
 ·refine Ev.pos c (Ev.pos (by simp) ?_);rw[wid (lo+size) (by omega) (by omega),wid (sz-size) (by omega) (by omega)];(have e:gC lo sz p size= [⟨lo,size,p,false⟩]++ [⟨lo+size,sz-size,0,false⟩]:=by unfold gC;rw[if_pos c];rfl);rw[e]at hF⊢;exact Ev.bind hF (Ev.ret _)
 ·refine Ev.neg c ?_;(have e:gC lo sz p size= [⟨lo,size,p,false⟩]:=by unfold gC;rw[if_neg c]);rw[e]at hF⊢;exact Ev.bind hF (Ev.ret _)
theorem Zf(cs:List aG)(hs:Small cs): ∀(rest:List aG) (i:Nat) (acc:List aG),cs.drop i=rest→i≤cs.length→acc.length=i→Ev (fun k=>ko.l0 k acc cs (cs.length:Int) (i:Int)) (acc++rest)
 | [],i,acc,hd,hi,ha=>by
  have he:=jE hd hi;have hl:=hs.1;refine Ev.succ ?_;simp only[ko.l0];exact Ev.neg (by omega) ((Ev.ret _).to (by simp))
 |c::rest,i,acc,hd,hi,ha=>by
  obtain⟨h1,h2,h3⟩:=jF ep hd;have er:av cs (i:Int)=c:=h2;(have hc:c ∈ cs:=by rw[←h2,m6 _ h1];exact List.getElem_mem _);have hcs:=hs.2 c hc;have hl:=hs.1;refine Ev.succ ?_;simp only[ko.l0,er];rw[eY i (by omega)];refine Ev.pos (by omega) (Ev.pos (by omega) (Ev.pos (by omega) (Ev.bind (Zg c.f0 c.f1 c.f2 (by omega) (by omega)) (Ev.pos (by omega) ?_))));refine(Zf cs hs rest (i+1) (acc++ [c]) h3 (by omega) (by simp[ha])).to ?_;simp
theorem aj3(cs:List aG)(hs:Small cs):Ev (fun k=>ko.f k cs) cs:=by
 unfold ko.f;exact Zf cs hs cs 0 [] rfl (by omega) rfl
theorem Vr{A B:List aG}{c:aG}{r:Int}(h:r=A.length):av (A++c::B) r=c:=by
 subst h;show(A++c::B).getD A.length _=c;rw[List.getD_eq_getElem?_getD,List.getElem?_append_right (Nat.le_refl _),Nat.sub_self];rfl
theorem arB{A B:List aG}{c d:aG}{r:Int}(h:r=A.length):(A++c::B).set r.toNat d=A++d::B:=by
 subst h;rw[Int.toNat_natCast,List.set_append_right _ _ (Nat.le_refl _),Nat.sub_self];rfl
theorem VV: ∀(a b:List aG),jK (a++b)=jK a+jK b
 | [],b=>by simp[jK]
 |c::a,b=>by
  rw[List.cons_append,jK,jK,VV a b];omega
theorem arC{α:Type}(a:List α)(c d:α)(b:List α):(a++c::b).set a.length d=a++d::b:=by
 rw[List.set_append_right _ _ (Nat.le_refl _),Nat.sub_self];rfl
theorem Ze(cs:List aG)(hs:Small cs): ∀(rest:List aG) (i:Nat) (acc:List aG),cs.drop i=rest→i≤cs.length→acc.length=i→Ev (fun k=>kR.l0 k cs acc (i:Int)) (acc++rest)
 | [],i,acc,hd,hi,ha=>by
  have he:=jE hd hi;have hl:=hs.1;refine Ev.succ ?_;simp only[kR.l0];exact Ev.neg (by omega) ((Ev.ret _).to (by simp))
 |c::rest,i,acc,hd,hi,ha=>by
  obtain⟨h1,h2,h3⟩:=jF ep hd;have er:av cs (i:Int)=c:=h2;(have hc:c ∈ cs:=by rw[←h2,m6 _ h1];exact List.getElem_mem _);have hl:=hs.1;have hm:=hs.2 c hc;refine Ev.succ ?_;simp only[kR.l0,er];rw[eY i (by omega)];refine Ev.pos (by omega) (Ev.pos (by omega) (Ev.bind (aj4 c.f0 c.f1 c.f2 (by omega) (by omega)) (Ev.pos (by omega) ?_)));refine(Ze cs hs rest (i+1) (acc++ [c]) h3 (by omega) (by rw[List.length_append,List.length_singleton,ha])).to ?_;rw[List.append_assoc];rfl
theorem aj2(cs:List aG)(hs:Small cs):Ev (fun k=>kR.f k cs) cs:=Ze cs hs cs 0 [] rfl (by omega) rfl
def tQ:Int→List aG→List aG
 |_,[]=> []
 |a,c::cs=>⟨a,xl (a+1) c.f1.length,xk (a+1+(c.f1.length:Int)) c.f2.length⟩::tQ (a+1+(c.f1.length:Int)+4*(c.f2.length:Int)) cs
def wg:Int→List aG→Int
 |a,[]=>a
 |a,c::cs=>wg (a+1+(c.f1.length:Int)+4*(c.f2.length:Int)) cs
theorem Zn: ∀(cs:List aG) (a:Int),a≤wg a cs
 | [],a=>Int.le_refl _
 |c::cs,a=>by
  have:=Zn cs (a+1+(c.f1.length:Int)+4*(c.f2.length:Int));rw[wg];omega
theorem adP: ∀(cs:List aG) (a:Int),(tQ a cs).length=cs.length
 | [],_=>rfl
 |c::cs,a=>by rw[tQ,List.length_cons,List.length_cons,adP cs]
theorem aef(a:List aG)(c:aG)(b:List aG):av (a++c::b) (a.length:Int)=c:=by
 show(a++c::b).getD (a.length:Int).toNat _=c;rw[Int.toNat_natCast,List.getD_eq_getElem?_getD,List.getElem?_append_right (Nat.le_refl _),Nat.sub_self];rfl
theorem adM: ∀(rest pre:List aG) (a:Int),pre.length+rest.length≤1048576→(∀c ∈ rest,c.f1.length≤1048576∧c.f2.length≤1048576)→0≤a→a+5*jK rest≤10000000→Ev (fun k=>iu.g0 k (pre++rest) a (pre.length:Int)) (wg a rest,pre++tQ a rest)
 | [],pre,a,hl,hm,h0,h1=>by
  rw[List.append_nil];refine Ev.succ ?_;simp only[iu.g0];exact Ev.neg (by omega) ((Ev.ret _).to (by simp[wg,tQ]))
 |c::rest,pre,a,hl,hm,h0,h1=>by
  have hw:=JV rest;rw[List.length_cons]at hl;rw[jK]at h1;have hc:=hm c List.mem_cons_self;(have hlen:(pre++c::rest).length=pre.length+rest.length+1:=by simp;omega);have ih:=adM rest (pre++ [⟨a,xl (a+1) c.f1.length,xk (a+1+(c.f1.length:Int)) c.f2.length⟩]) (a+1+(c.f1.length:Int)+4*(c.f2.length:Int)) (by rw[List.length_append,List.length_singleton];omega) (fun x hx=>hm x (List.mem_cons_of_mem _ hx)) (by omega) (by omega);rw[List.length_append,List.length_singleton,List.append_assoc,List.append_assoc]at ih;refine Ev.succ ?_;simp only[iu.g0,aef];rw[wid (a+1) (by omega) (by omega),eY pre.length (by omega),Int.toNat_natCast];refine Ev.pos (by omega) (Ev.pos (by omega) (Ev.bind (adN c.f1 hc.1 (a+1) (by omega) (by omega)) (Ev.bind (adK c.f2 hc.2 (a+1+(c.f1.length:Int)) (by omega) (by omega)) ?_)));dsimp only;rw[arC];exact ih
theorem abj: ∀(rest pre:List aG) (a:Int),pre.length+rest.length≤1048576→(∀c ∈ rest,c.f1.length≤1048576∧c.f2.length≤1048576)→0≤a→a+5*jK rest≤10000000→Ev (fun k=>nY.l0 k (pre++tQ a rest) a (pre.length:Int)) (wg a rest)
 | [],pre,a,hl,hm,h0,h1=>by
  rw[tQ,List.append_nil];refine Ev.succ ?_;simp only[nY.l0];exact Ev.neg (by omega) ((Ev.ret _).to (by simp[wg]))
 |c::rest,pre,a,hl,hm,h0,h1=>by
  have hw:=JV rest;rw[List.length_cons]at hl;rw[jK]at h1;have hc:=hm c List.mem_cons_self;(have hlen:(pre++tQ a (c::rest)).length=pre.length+rest.length+1:=by rw[List.length_append,adP,List.length_cons];omega);have ih:=abj rest (pre++ [⟨a,xl (a+1) c.f1.length,xk (a+1+(c.f1.length:Int)) c.f2.length⟩]) (a+1+(c.f1.length:Int)+4*(c.f2.length:Int)) (by rw[List.length_append,List.length_singleton];omega) (fun x hx=>hm x (List.mem_cons_of_mem _ hx)) (by omega) (by omega);rw[List.length_append,List.length_singleton,List.append_assoc]at ih;rw[tQ]at hlen⊢;refine Ev.succ ?_;simp only[nY.l0,aef];rw[wid (a+1) (by omega) (by omega),eY pre.length (by omega)];exact Ev.pos (by omega) (Ev.pos (by omega) (Ev.pos trivial (Ev.bind (amY c.f1.length hc.1 (a+1) (by omega) (by omega)) (Ev.neg (by omega) (Ev.bind (amX c.f2.length hc.2 (a+1+(c.f1.length:Int)) (by omega) (by omega)) (Ev.neg (by omega) ih))))))
theorem aiU(cs:List aG)(hs:Small cs)(size:Int):Ev (fun k=>tM.f k cs size) (kQ (lp size (k5 cs))):=by
 unfold tM.f;refine Ev.bind (aiY cs hs) ?_;have:=Yu cs;exact Ev.bind (aqE _ (by omega) size) (Ev.ret _)
theorem aiT(cs:List aG)(hs:Small cs)(size:Int):Ev (fun k=>vm.f k cs size) (kQ (lp size (k5 cs))):=by
 unfold vm.f;refine Ev.bind (aiX cs hs) ?_;have:=Yu cs;obtain⟨r,h1,h2⟩:=ak4 (k5 cs) (by omega) size;exact Ev.bind h1 h2
def yP(cs:List aG)(p s:Int):List aG×Int×Int×Int×Bool:=
 match lp s (k5 cs)with
 |none=>(cs,0,0,0,false)
 |some g=>if(1≤p∧p≤999)∧(zQ cs p).1<0 then(cs.set g.f0.toNat (qR g p s (av cs g.f0)),g.f0,g.f1,s,true)else(cs,0,0,0,false)
theorem aiV{cs:List aG}{g:aQ}(h:g ∈ k5 cs):k6 cs=true∧g ∈ fX 0 cs:=by
 unfold k5 at h;by_cases hb:k6 cs=true
 ·rw[if_pos hb]at h;exact⟨hb,h⟩
 ·rw[if_neg hb]at h;exact absurd h (by simp)
theorem aja{cs:List aG}(hb:k6 cs=true){p:Int}(hp:1≤p):(zQ cs p).1=nt cs p 0:=by
 (have eI: ∀l:List aj,mY l p=g7 l p 0:=fun l=>by unfold mY;rw[if_pos (by omega)]);unfold zQ;rw[if_pos hb];rcases adn cs p 0 (Int.le_refl _)with⟨h1,h2⟩|⟨l1,c,l2,h1,h2,h3,h4⟩
 ·rw[ZC cs p 0 (fun c hc=>by rw[eI];exact h2 c hc),h1]
 ·rw[h4,h1,ZB l1 c l2 p 0 (fun x hx=>by rw[eI];exact h3 x hx) (by rw[eI];exact h2)]
theorem U1{cs:List aG}(hs:Small cs){p s:Int}{g:aQ}(hl:lp s (k5 cs)=some g)(hp:1≤p):
  ∃C1 c C2,cs=C1++c::C2∧g.f0=C1.length∧(0≤g.f1∧g.f1+g.f2≤24∧s≤g.f2∧1≤s)∧c.f1.length≤1048576∧c.f2.length≤24∧(∀b ∈ c.f2,1≤b.f1∧b.f1≤24)∧(qR g p s c).f2.length≤c.f2.length+2∧mD g.f1 g.f2 (gC g.f1 g.f2 p s) c.f2=(qR g p s c).f2:=by
 obtain⟨hm,hle,hs1,_⟩:=aqA hl;obtain⟨hb,hm⟩:=aiV hm;have v:=(KP cs).mp hb;have S7:=v.geo hs;have hfl:=S7.flat;obtain⟨C1,c,C2,P,Q,A,R,B,h,e1,e2,e3,e4,e5,e6,e7,e8,e9,e10,e11,Zk,e13⟩:=ai0 S7 hm (p:=p) (s:=s) (by omega) hs1 hle;(have hc:c ∈ cs:=by rw[e1];simp);refine⟨C1,c,C2,e1,e2,⟨e7.1,e7.2,hle,hs1⟩,S7.fix c hc,hfl.box c hc,hfl.sz c hc,?_,by rw[e13,Zk]⟩;have Ma:=Uw g.f1 g.f2 p s;have ea:=congrArg List.length e8.all;rw[Zk];simp only[List.length_append]at ea⊢;omega
theorem arh{cs:List aG}(hs:Small cs)(p s:Int):Small (yP cs p s).1∧jK (yP cs p s).1≤jK cs+2:=by
 unfold yP;have hwn:=JV cs;cases hl:lp s (k5 cs)with
 |none=>exact⟨hs,by dsimp only;omega⟩
 |some g=>
  dsimp only;by_cases c0:(1≤p∧p≤999)∧(zQ cs p).1<0
  ·rw[if_pos c0];obtain⟨C1,c,C2,h1,h2,_,h4,h5,_,h7,_⟩:=U1 hs hl c0.1.1;(have er:av cs g.f0=c:=by rw[h1];exact Vr h2);(have es:cs.set g.f0.toNat (qR g p s c)=C1++qR g p s c::C2:=by rw[h1];exact arB h2);dsimp only;rw[er];refine⟨⟨by rw[List.length_set];exact hs.1,fun x hx=>?_⟩,?_⟩
   ·rcases List.mem_or_eq_of_mem_set hx with hx|hx
    ·exact hs.2 x hx
    ·subst hx;exact⟨h4,by omega⟩
   ·rw[es,h1,VV,VV,jK,jK];have:(qR g p s c).f1=c.f1:=rfl;rw[this];omega
  ·rw[if_neg c0];exact⟨hs,by dsimp only;omega⟩
theorem ard(cs:List aG)(hs:Small cs)(p s:Int):Ev (fun k=>jT.f k cs p s) (yP cs p s):=by
 unfold jT.f yP;refine Ev.bind (aj2 cs hs) (Ev.bind (aiT cs hs s) (Ev.bind (ajb cs hs p) ?_));cases hl:lp s (k5 cs)with
 |none=>exact Ev.neg (by simp[kQ]) (Ev.ret _)
 |some g=>
  have x0:(kQ (some g)).1=g.f0:=rfl;have x1:(kQ (some g)).2.1=g.f1:=rfl;have x2:(kQ (some g)).2.2.1=g.f2:=rfl;refine Ev.pos (by simp[kQ]) ?_;rw[x0,x1,x2];refine Ev.bind (Ev.const (Jn p 1 999)) ?_;dsimp only;by_cases c1:1≤p∧p≤999
  ·refine Ev.pos (decide_eq_true c1) ?_;by_cases c2:(zQ cs p).1≥0
   ·refine Ev.pos c2 ((Ev.ret _).to ?_);rw[if_neg (fun e=>by have:=e.2;omega)]
   ·rw[if_pos ⟨c1,by omega⟩];obtain⟨C1,c,C2,h1,h2,h3,h4,h5,h6,h7,h8⟩:=U1 hs hl c1.1;(have er:av cs g.f0=c:=by rw[h1];exact Vr h2);have lc:=congrArg List.length h1;simp at lc;rw[er];refine Ev.neg c2 (Ev.pos (by omega) (Ev.pos (by omega) ?_));refine Ev.bind (ak2 c.f0 c.f1 h4 c.f2 h5 g.f0 g.f1 g.f2 p s (by omega) (by omega) (by omega) (by omega) (by omega) (by omega)) (Ev.pos (by omega) ((Ev.ret _).to ?_));dsimp only;rw[h8];rfl
  ·refine Ev.neg (by simpa using c1) ((Ev.ret _).to ?_);rw[if_neg (fun e=>c1 e.1)]
theorem arf(cs:List aG)(hs:Small cs)(p s:Int):Ev (fun k=>jI.f k cs p s) (yP cs p s):=by
 unfold jI.f yP;refine Ev.bind (aj3 cs hs) (Ev.bind (aiU cs hs s) ?_);by_cases hb:k6 cs=true
 ·refine Ev.bind (Ev.const (show oy.f cs=some true from congrArg some hb)) (Ev.pos rfl (Ev.bind (Ev.const (qU _ _ _)) ?_));by_cases c1:1≤p∧p≤999
  ·have ei:=aja hb c1.1;refine Ev.pos (decide_eq_true c1) (Ev.bind (Ev.const (show yL.f cs p=some (nt cs p 0) from rfl)) ?_);by_cases c2:nt cs p 0≥0
   ·refine Ev.pos c2 ((Ev.ret _).to ?_);cases hl:lp s (k5 cs)with
    |none=>rfl
    |some g=>dsimp only;rw[if_neg (fun e=>by have:=e.2;omega)]
   ·refine Ev.neg c2 ?_;cases hl:lp s (k5 cs)with
    |none=>exact Ev.neg (by simp[kQ]) (Ev.ret _)
    |some g=>
     have x0:(kQ (some g)).1=g.f0:=rfl;have x1:(kQ (some g)).2.1=g.f1:=rfl;have x2:(kQ (some g)).2.2.1=g.f2:=rfl;dsimp only;rw[if_pos ⟨c1,by omega⟩];obtain⟨C1,c,C2,h1,h2,h3,h4,h5,h6,h7,h8⟩:=U1 hs hl c1.1;(have er:av cs g.f0=c:=by rw[h1];exact Vr h2);have lc:=congrArg List.length h1;simp at lc;rw[x0,x1,x2,er];refine Ev.pos (by simp[kQ]) (Ev.pos (by omega) (Ev.pos (by omega) ?_));refine Ev.bind (ara c.f0 c.f1 h4 c.f2 h5 h6 g.f0 g.f1 g.f2 p s (by omega) (by omega) (by omega)) ((Ev.ret _).to ?_);rfl
  ·refine Ev.neg (by simpa using c1) ((Ev.ret _).to ?_);cases hl:lp s (k5 cs)with
   |none=>rfl
   |some g=>dsimp only;rw[if_neg (fun e=>c1 e.1)]
 ·refine Ev.bind (Ev.const (show oy.f cs=some false from congrArg some (by simpa using hb))) (Ev.neg (by simp) ((Ev.ret _).to ?_));(have:k5 cs= []:=by unfold k5;rw[if_neg hb]);rw[this];(have e:lp s ([]:List aQ)=none:=by simp[lp,nZ]);rw[e]
theorem arc: ∀(l0:List (iM)) (a1:Int) (a2:Int),Uy l0→yN a1→yN a2→ ∃k,DG.f k l0 a1 a2=some true:=by
 rintro l p s hl _ _;refine Ev.get ?_;unfold DG.f;rcases aiZ l hl with⟨r,h1,h2⟩|⟨⟨r,h1,h2⟩,hT,hs,hw⟩
 ·exact Ev.bind h1 (Ev.pos h2 (Ev.ret _))
 ·rw[←aeQ]at hw;generalize l.map xy=cs at hT hs hw;obtain⟨m,m0,_,hM0⟩:=aqJ cs hs hw;have hS:=ard cs hs p s;have hI:=arf cs hs p s;obtain⟨ho,hwo⟩:=arh hs p s;generalize yP cs p s=o at hS hI ho hwo;obtain⟨o,g0,g1,g2,ok⟩:=o;dsimp only at ho hwo;have hM:Ev (fun k=>iu.g k o 1) (wg 1 o,tQ 1 o):=adM o [] 1 (by rw[List.length_nil];have:=ho.1;omega) ho.2 (by omega) (by omega);have hH:Ev (fun k=>nY.f k (tQ 1 o) 1) (wg 1 o):=abj o [] 1 (by rw[List.length_nil];have:=ho.1;omega) ho.2 (by omega) (by omega);have hge:=Zn o 1;(have hG:AW.f g0 g1 g2 g0 g1 g2=some true:=by unfold AW.f;simp only[if_true]);refine Ev.bind h1 (Ev.neg (by omega) ?_);exact Ev.bind hT (Ev.bind hS (Ev.bind hI (Ev.bind (Zt o ho) (Ev.bind (Ev.const hG) (Ev.bind (Zt cs hs) (Ev.bind hM0 (Ev.bind hM (Ev.bind hH (Ev.pos ⟨rfl,rfl,rfl,rfl,m0,by omega,rfl⟩ (Ev.ret _))))))))))
end Go.Proofs.Ytbpjidekjogfeaa.A
