/- Used by the law FnBanks. -/
import Derived.Test.YtbpjidekjogfeaaZFnBanksx32
import Derived.Test.YtbpjidekjogfeaaZFnBanksx30
namespace Go.Proofs.Ytbpjidekjogfeaa.A
open Go.RowKit Go.Proofs.YtbpjidekjogfeaaW.cN Go.Proofs.YtbpjidekjogfeaaW.dV Go.Proofs.YtbpjidekjogfeaaW.eF
set_option linter.unusedVariables false
set_option linter.unusedSimpArgs false
def BV:List (List ai)→Nat
 | []=>0
 |l::ls=>l.length+BV ls
theorem akC(ls:List (List ai))(hl:ls.length≤1048576): ∀(rest:List (List ai)) (i:Nat) (acc:List ai),ls.drop i=rest→i≤ls.length→acc.length+BV rest≤1048576→
  Ev (fun k=>lp.l1 k acc ls (ls.length:Int) (i:Int)) (acc++rest.flatten)
 | [],i,acc,hd,hi,ha=>by
  have he:=l9 hd hi;refine Ev.succ ?_;simp only[lp.l1];exact Ev.neg (by omega) ((Ev.ret _).to (by simp))
 |b::rest,i,acc,hd,hi,ha=>by
  obtain⟨h1,h2,h3⟩:=mb [] hd;have er:sO ls (i:Int)=b:=h2;rw[BV]at ha;refine Ev.succ ?_;simp only[lp.l1,er];rw[jw i (by omega)];refine Ev.pos (by omega) (Ev.pos (by omega) (Ev.pos (by omega) (Ev.pos (by omega) ?_)));refine(akC ls hl rest (i+1) (acc++b) h3 (by omega) (by simp;omega)).to ?_;simp
theorem akB(ls:List (List ai))(hl:ls.length≤1048576)(ht:BV ls≤1048576): ∀(rest:List (List ai)) (i:Nat) (s:Nat),ls.drop i=rest→i≤ls.length→s+BV rest=BV ls→
  Ev (fun k=>lp.l0 k ls (s:Int) ls (ls.length:Int) (i:Int)) ls.flatten
 | [],i,s,hd,hi,ha=>by
  have he:=l9 hd hi;rw[BV]at ha;refine Ev.succ ?_;simp only[lp.l0];refine Ev.neg (by omega) ?_;refine Ev.bind (a:= []) (Ev.const (by unfold Iq.f;rw[if_pos (by omega)])) ?_;have:=akC ls hl ls 0 [] rfl (by omega) (by simp;omega);exact this
 |b::rest,i,s,hd,hi,ha=>by
  obtain⟨h1,h2,h3⟩:=mb [] hd;have er:sO ls (i:Int)=b:=h2;rw[BV]at ha;refine Ev.succ ?_;simp only[lp.l0,er];rw[jw i (by omega),wid ((s:Int)+(b.length:Int)) (by omega) (by omega)];refine Ev.pos (by omega) (Ev.pos (by omega) (Ev.pos (by omega) (Ev.neg (by omega) ?_)));exact akB ls hl ht rest (i+1) (s+b.length) h3 (by omega) (by omega)
theorem ax6(ls:List (List ai))(hl:ls.length≤1048576)(ht:BV ls≤1048576):Ev (fun k=>lp.f k ls) ls.flatten:=by
 unfold lp.f;exact akB ls hl ht ls 0 0 rfl (by omega) (by omega)
def vO(lo:Int)(N:List ai):List ai→List (List ai×List ai×List ai)→List ai
 |acc,[]=>acc
 |acc,d::ds=>vO lo N (if gx d.2.1=lo then d.1++N++d.2.2 else acc) ds
theorem ak3(h:Int)(fx:List Int)(bx:List ai)(hl:bx.length≤24)(lo:Int)(N:List ai)(hN:N.length≤24)(D:List (List ai×List ai×List ai))(hD:D.length≤24)(hD2: ∀d ∈ D,d.1++d.2.1++d.2.2=bx∧d.2.1≠ []):
  ∀(rest:List (List ai×List ai×List ai)) (i:Nat) (acc:List ai),D.drop i=rest→i≤D.length→Ev (fun k=>jA.l0 k lo N (D.map ud) ((D.map ud).length:Int) (i:Int) h fx bx h fx acc) (h,fx,vO lo N acc rest)
 | [],i,acc,hd,hi=>by
  have he:=l9 hd hi;refine Ev.succ ?_;simp only[jA.l0,List.length_map];exact Ev.neg (by omega) (Ev.ret _)
 |d::rest,i,acc,hd,hi=>by
  obtain⟨h1,h2,h3⟩:=mb ([],[],[]) hd;(have hm:d ∈ D:=by rw[←h2,qe _ h1];exact List.getElem_mem _);have er:aE (D.map ud) (i:Int)=ud d:=by
   show(D.map ud).getD i _=_;rw[List.getD_eq_getElem?_getD,List.getElem?_map,List.getElem?_eq_getElem h1,←h2,qe _ h1];rfl
  obtain⟨hall,hne⟩:=hD2 d hm;have hlen:=congrArg List.length hall;simp at hlen;have elo:(ud d).f0.f1=gx d.2.1:=by
   unfold ud;cases hR:d.2.1 with
   |nil=>exact absurd hR hne
   |cons x xs=>rfl
  have ef:(ud d).f1=(d.1.length:Int):=rfl;have et:(ud d).f2=(d.1.length:Int)+(d.2.1.length:Int):=rfl;have ih:=fun acc=>ak3 h fx bx hl lo N hN D hD hD2 rest (i+1) acc h3 (by omega);refine Ev.succ ?_;simp only[jA.l0,er,elo,ef,et,vO];rw[jw i (by omega)];refine Ev.pos (by rw[List.length_map];omega) (Ev.pos (by omega) (Ev.pos (by rw[List.length_map];omega) ?_));by_cases c:gx d.2.1=lo
  ·rw[if_pos c];refine Ev.pos c (Ev.pos (by omega) (Ev.pos (by omega) (Ev.pos (by omega) (Ev.pos (by omega) ?_))));have e1:bx.take ((d.1.length:Int)).toNat=d.1:=by
    rw[Int.toNat_natCast,←hall,List.append_assoc,List.take_left'];rfl
   have e2:bx.drop ((d.1.length:Int)+(d.2.1.length:Int)).toNat=d.2.2:=by
    rw[show((d.1.length:Int)+(d.2.1.length:Int)).toNat=(d.1++d.2.1).length by rw[List.length_append];omega,←hall,List.drop_left'];rfl
   rw[e1,e2];refine Ev.bind (ax6 _ (by simp) (by simp only[BV];omega)) ?_;refine(ih _).to ?_;simp
  ·rw[if_neg c];exact Ev.neg c (ih acc)
theorem azh(h:Int)(fx:List Int)(hf:fx.length≤1048576)(bx:List ai)(hl:bx.length≤24)(hm: ∀b ∈ bx,1≤b.f1∧b.f1≤24)(lo:Int)(N:List ai)(hN:N.length≤24):Ev (fun k=>jA.f k h fx bx lo N) (h,fx,vO lo N bx (mT fx [] [] bx)):=by
 unfold jA.f;refine Ev.bind (aa3 h fx bx (by omega) (by omega)) (Ev.bind (aqP h fx hf bx hl hm) ?_);have hD:(mT fx [] [] bx).length≤24:=by
  have h2:=congrArg List.length (EJ fx bx [] []);have h1:=Oe fx bx;rw[List.length_map]at h2;unfold iK at h1;omega
 exact ak3 h fx bx hl lo N hN _ hD (fun d hd=>⟨(NT fx bx d hd).all,(NT fx bx d hd).ne⟩) _ 0 bx rfl (by omega)
theorem yJ{R:List ai}(h:R≠ []):j5 R=⟨0,gx R,eP R⟩:=by
 cases R with
 |nil=>exact absurd rfl h
 |cons x R=>rfl
theorem ak0(lo:Int)(N:List ai): ∀(D:List (List ai×List ai×List ai)) (acc:List ai),(∀d ∈ D,gx d.2.1≠lo)→vO lo N acc D=acc
 | [],_,_=>rfl
 |d::D,acc,h=>by
  rw[vO,if_neg (h d (by simp))];exact ak0 lo N D acc (fun x hx=>h x (by simp[hx]))
theorem ak1(lo:Int)(N:List ai): ∀(D:List (List ai×List ai×List ai)) (acc:List ai) (d:List ai×List ai×List ai),d ∈ D→D.Pairwise (fun a b=>gx a.2.1<gx b.2.1)→gx d.2.1=lo→vO lo N acc D=d.1++N++d.2.2
 | [],_,d,hd,_,_=>absurd hd (by simp)
 |x::D,acc,d,hd,hp,hl=>by
  obtain⟨h1,h2⟩:=List.pairwise_cons.mp hp;rw[vO];rcases List.mem_cons.mp hd with rfl|hd
  ·rw[if_pos hl];exact ak0 lo N D _ (fun y hy=>by have:=h1 y hy;omega)
  ·exact ak1 lo N D _ d hd h2 hl
theorem ayb(fx:List Int)(bx:List ai)(lo hi:Int)(ht:jl lo bx hi):(mT fx [] [] bx).Pairwise (fun a b=>gx a.2.1<gx b.2.1):=by
 have h1:=(Og fx bx [] lo hi ht (fun c=>absurd rfl c)).1;rw[←EJ fx bx [] [],List.pairwise_map]at h1;refine List.Pairwise.imp_of_mem (fun ha hb h=>?_) h1;rw[yJ (NT fx bx _ ha).ne,yJ (NT fx bx _ hb).ne]at h;exact h
theorem abM(fx:List Int)(bx:List ai)(lo hi:Int)(ht:jl lo bx hi)(g:br)(hg:g ∈ iK fx bx): ∃A R B,sB fx bx A R B∧g=⟨0,gx R,eP R⟩∧(∀N,oK g.f1 g.f2 N bx=A++N++B)∧ ∀N,vO g.f1 N bx (mT fx [] [] bx)=A++N++B:=by
 unfold iK at hg;rw[←EJ fx bx [] []]at hg;obtain⟨d,hd,rfl⟩:=List.mem_map.mp hg;have hr:=NT fx bx d hd;have e:=yJ hr.ne;refine⟨d.1,d.2.1,d.2.2,hr,e,fun N=>?_,fun N=>?_⟩
 ·rw[e];have h2:=hr.all;(have h3:jl lo (d.1++d.2.1++d.2.2) hi:=by rw[h2];exact ht);have:=azg h3 hr.ne N;rw[h2]at this;exact this
 ·rw[e];exact ak1 _ N _ bx d hd (ayb fx bx lo hi ht) rfl
theorem af1{A R B N:List ai}{lo hi:Int}(h:jl lo (A++R++B) hi)(hR:R≠ [])(hN:jl (gx R) N (gx R+eP R)):jl lo (A++N++B) hi:=by
 rw[DP,DP]at h⊢;obtain⟨⟨h1,h2⟩,h3⟩:=h;have e:gx R=lo+eP A:=by
  cases R with
  |nil=>exact absurd rfl hR
  |cons x R=>exact h2.1
 have s:=(uc _ _ _ hN).1;rw[xG]at h3⊢;(have e2:eP N=eP R:=by omega);rw[e2];refine⟨⟨h1,?_⟩,h3⟩;rw[e]at hN;rw[←Int.add_assoc];exact hN
def eC(lo sz nD size:Int):List ai:=⟨lo,size,nD,false⟩::(if size<sz then[⟨lo+size,sz-size,0,false⟩]else[])
theorem aec(lo sz nD size:Int):(eC lo sz nD size).length≤2:=by
 unfold eC;split<;>simp
theorem abK(h:Int)(fx:List Int)(bx:List ai)(hl:bx.length≤24)(g0 lo sz nD size:Int)(h0:0≤lo)(h1:lo≤1000)(h2:0≤sz)(h3:sz≤1000)(h4:0≤size)(h5:size≤1000):
  ∀(rest:List ai) (i:Nat) (acc:List ai),bx.drop i=rest→i≤bx.length→acc.length≤3*i→Ev (fun k=>gV.l0 k nD size (i:Int) h fx bx g0 lo sz h fx acc) (h,fx,acc++oK lo sz (eC lo sz nD size) rest)
 | [],i,acc,hd,hi,ha=>by
  have he:=l9 hd hi;refine Ev.succ ?_;simp only[gV.l0];exact Ev.neg (by omega) ((Ev.ret _).to (by simp[oK]))
 |b::rest,i,acc,hd,hi,ha=>by
  obtain⟨d1,d2,d3⟩:=mb jf hd;have er:ah bx (i:Int)=b:=d2;have hn:=aec lo sz nD size;have ef:oK lo sz (eC lo sz nD size) (b::rest)=((if b.f0=lo then eC lo sz nD size else[])++(if b.f0<lo∨lo+sz≤b.f0 then[b]else[]))++oK lo sz (eC lo sz nD size) rest:=by
   unfold oK;rw[List.flatMap_cons]
  have last: ∀(Kz:List ai),Kz.length≤3*i+2→Ev (fun k=>gV.j1 k nD size (i:Int) h fx bx g0 lo sz h fx Kz b.f0 b.f1 b.f2 b.f3) (h,fx,Kz++(if b.f0<lo∨lo+sz≤b.f0 then[b]else[])++oK lo sz (eC lo sz nD size) rest):=by
   intro Kz hacc;refine Ev.succ ?_;simp only[gV.j1];rw[jw i (by omega),wid (lo+sz) (by omega) (by omega)];have keep:=abK h fx bx hl g0 lo sz nD size h0 h1 h2 h3 h4 h5 rest (i+1) (Kz++ [b]) d3 (by omega) (by simp;omega);by_cases c1:b.f0<lo
   ·rw[if_pos (Or.inl c1)];exact Ev.pos c1 (Ev.pos (by omega) keep)
   ·refine Ev.neg c1 ?_;by_cases c2:b.f0≥lo+sz
    ·rw[if_pos (Or.inr c2)];exact Ev.pos c2 (Ev.pos (by omega) keep)
    ·rw[if_neg (by omega),List.append_nil];exact Ev.neg c2 (abK h fx bx hl g0 lo sz nD size h0 h1 h2 h3 h4 h5 rest (i+1) Kz d3 (by omega) (by omega))
  refine Ev.succ ?_;simp only[gV.l0,er];rw[ef];refine Ev.pos (by omega) (Ev.pos (by omega) ?_);by_cases c:b.f0=lo
  ·rw[if_pos c];refine Ev.pos c (Ev.pos (by omega) (Ev.bind (Ev.ret _) ?_));(have la:(acc++eC lo sz nD size).length≤3*i+2:=by rw[List.length_append];omega);have Ll:=last (acc++eC lo sz nD size) la;by_cases d:size<sz
   ·refine Ev.pos d (Ev.pos (by simp;omega) ?_);rw[wid (lo+size) (by omega) (by omega),wid (sz-size) (by omega) (by omega)];(have en:eC lo sz nD size= [⟨lo,size,nD,false⟩]++ [⟨lo+size,sz-size,0,false⟩]:=by unfold eC;rw[if_pos d];rfl);rw[en]at Ll⊢;simp only[List.append_assoc]at Ll⊢;exact Ll
   ·refine Ev.neg d ?_;(have en:eC lo sz nD size= [⟨lo,size,nD,false⟩]:=by unfold eC;rw[if_neg d]);rw[en]at Ll⊢;simp only[List.append_assoc]at Ll⊢;exact Ll
  ·rw[if_neg c,List.nil_append];refine Ev.neg c ((last acc (by omega)).to ?_);simp only[List.append_assoc]
theorem ak2(h:Int)(fx:List Int)(hf:fx.length≤1048576)(bx:List ai)(hl:bx.length≤24)(g0 lo sz nD size:Int)(h0:0≤lo)(h1:lo≤1000)(h2:0≤sz)(h3:sz≤1000)(h4:0≤size)(h5:size≤1000):
  Ev (fun k=>gV.f k h fx bx g0 lo sz nD size) (h,fx,oK lo sz (eC lo sz nD size) bx):=by
 unfold gV.f;refine Ev.bind (Ev.ret _) (Ev.pos (by simp;omega) ?_);exact abK h fx bx hl g0 lo sz nD size h0 h1 h2 h3 h4 h5 bx 0 [] rfl (by omega) (by simp)
def Um(bx:List ai)(g:br):List ai:=oK g.f1 g.f2 (eC g.f1 g.f2 0 g.f2) bx
theorem aEE(lo sz p:Int):eC lo sz p sz= [⟨lo,sz,p,false⟩]:=by unfold eC;rw[if_neg (by omega)]
structure J2(h:Int)(fx:List Int)(G:List br)(bx:List ai):Prop where
 hi:h≤24
 nc:jl 0 bx h
 gaps:iK fx bx=G
theorem J2.len{h:Int}{fx:List Int}{G:List br}{bx:List ai}(c:J2 h fx G bx):bx.length≤24∧(∀b ∈ bx,1≤b.f1∧b.f1≤24):=by
 have:=uc _ _ _ c.nc;have:=c.hi;refine⟨by omega,fun b hb=>?_⟩;have:=DQ _ _ _ c.nc b hb;omega
theorem J2.step{h:Int}{fx:List Int}{G:List br}{bx:List ai}(c:J2 h fx G bx)(g:br)(hg:g ∈ G):
  J2 h fx G (Um bx g)∧(0≤g.f1∧1≤g.f2∧g.f1+g.f2≤24)∧vO g.f1 [⟨g.f1,g.f2,0,false⟩] bx (mT fx [] [] bx)=Um bx g:=by
 (have hg':g ∈ iK fx bx:=by rw[c.gaps];exact hg);obtain⟨A,R,B,hr,e,h1,h2⟩:=abM fx bx 0 h c.nc g hg';have hp:=alb fx bx 0 h c.nc g hg';have ec:Um bx g=A++ [⟨g.f1,g.f2,0,false⟩]++B:=by
  unfold Um;rw[aEE,h1]
 (have e1:g.f1=gx R:=by rw[e]);(have e2:g.f2=eP R:=by rw[e]);have ht:=c.nc;rw[←hr.all]at ht;have hN:jl (gx R) [⟨g.f1,g.f2,0,false⟩] (gx R+eP R):=⟨e1,hp.1,by show gx R+g.f2=_;rw[e2]⟩;refine⟨⟨c.hi,?_,?_⟩,?_,?_⟩
 ·rw[ec];exact af1 ht hr.ne hN
 ·rw[ec,afu hr [(ai.mk g.f1 g.f2 0 false)] (by simp) (Or.inl e1)];have eg:iK fx [(ai.mk g.f1 g.f2 0 false)]= [j5 R]:=by
   have eo:kj (ai.mk g.f1 g.f2 0 false)=true:=rfl;unfold iK;simp only[fR];rw[if_pos eo,if_neg (fun c=>c.1 rfl)];have UC:fY []= []:=rfl;(have em2:fY [(ai.mk g.f1 g.f2 0 false)]= [j5 [(ai.mk g.f1 g.f2 0 false)]]:=by unfold fY;rw[if_neg (by simp)]);(have es:eP [(ai.mk g.f1 g.f2 0 false)]=g.f2:=by rw[qq,m6];exact Int.add_zero _);rw[UC,em2,List.nil_append,yJ (by simp),yJ hr.ne,es,←e2,←e1];rfl
  rw[eg,←aqO hr];exact c.gaps
 ·have hm:=DQ _ _ _ ht;rw[DP,DP]at ht;obtain⟨⟨ha,hb⟩,hc⟩:=ht;have s1:=uc _ _ _ ha;have s3:=uc _ _ _ hc;rw[xG]at s3;have hR:=hr.ne;have er:gx R=0+eP A:=by
   cases R with
   |nil=>exact absurd rfl hR
   |cons x R=>exact hb.1
  have:=c.hi;(have hBn:(0:Int)≤(B.length:Int):=by omega);omega
 ·rw[h2,ec]
theorem jI.clr{h:Int}{fx:List Int}{bx:List ai}(v:jI h fx bx):J2 h fx (iK fx bx) bx:=⟨v.hi.2,v.nc,rfl⟩
theorem WS: ∀(l:List aT) (p i:Int),0≤i→(oT l p i= -1∧ ∀c ∈ l,eO c.f2 p 0<0)∨ ∃l1 c l2,l=l1++c::l2∧0≤eO c.f2 p 0∧(∀x ∈ l1,eO x.f2 p 0<0)∧oT l p i=i+l1.length
 | [],p,i,_=>Or.inl ⟨rfl,by simp⟩
 |b::l,p,i,hi=>by
  simp only[oT];by_cases c:0≤eO b.f2 p 0
  ·rw[if_pos c];exact Or.inr ⟨[],b,l,rfl,c,by simp,by simp⟩
  ·rw[if_neg c];rcases WS l p (i+1) (by omega)with⟨h1,h2⟩|⟨l1,x,l2,h1,h2,h3,h4⟩
   ·exact Or.inl ⟨h1,fun y hy=>by
     rcases List.mem_cons.mp hy with rfl|hy
     ·omega
     ·exact h2 y hy⟩
   ·refine Or.inr ⟨b::l1,x,l2,by rw[h1];rfl,h2,fun y hy=>?_,by rw[h4,List.length_cons];omega⟩;rcases List.mem_cons.mp hy with rfl|hy
    ·omega
    ·exact h3 y hy
def qK(cs:List aT)(p:Int):Int→Int×Int
 |i=>match cs with
  | []=>(-1,-1)
  |c::cs=>if 0≤jx c.f2 p then(i,(ah c.f2 (jx c.f2 p)).f0)else qK cs p (i+1)
def mC(cs:List aT)(p:Int):Int×Int:=if lZ cs=true then qK cs p 0 else(-1,-1)
theorem aw2(l:List ai)(p:Int):jx l p<l.length:=by
 unfold jx;split
 ·rcases Ip l p with⟨h,_⟩|⟨l1,b,l2,h1,_,_,h4⟩
  ·rw[h];omega
  ·rw[h4,h1];simp;omega
 ·omega
theorem ajW(cs:List aT)(hs:Small cs)(p:Int)(hb:lZ cs=true): ∀(rest:List aT) (i:Nat),cs.drop i=rest→i≤cs.length→Ev (fun k=>kE.l0 k cs p (i:Int)) (qK rest p (i:Int))
 | [],i,hd,hi=>by
  have he:=l9 hd hi;have hl:=hs.1;refine Ev.succ ?_;simp only[kE.l0];refine Ev.neg (by omega) (Ev.succ ?_);simp only[kE.j1];exact Ev.neg (by simp) ((Ev.ret _).to (by simp[qK]))
 |c::rest,i,hd,hi=>by
  obtain⟨h1,h2,h3⟩:=mb jW hd;have er:av cs (i:Int)=c:=h2;(have hc:c ∈ cs:=by rw[←h2,qe _ h1];exact List.getElem_mem _);have hl:=hs.1;have hlt:=aw2 c.f2 p;have ih:=ajW cs hs p hb rest (i+1) h3 (by omega);refine Ev.succ ?_;simp only[kE.l0];refine Ev.pos (by omega) (Ev.bind (TN cs hs) (Ev.succ ?_));simp only[kE.j1,er];refine Ev.pos hb (Ev.pos (by omega) (Ev.pos (by omega) (Ev.bind (TS _ _ _ (hs.2 c hc).2 p) ?_)));rw[jw i (by omega)];by_cases d:jx c.f2 p≥0
  ·refine Ev.pos d (Ev.pos d (Ev.pos hlt ((Ev.ret _).to ?_)));simp only[qK];rw[if_pos d]
  ·refine Ev.neg d (ih.to ?_);rw[qK];rw[if_neg (by omega)];rfl
theorem aw3(cs:List aT)(hs:Small cs)(p:Int):Ev (fun k=>kE.f k cs p) (mC cs p):=by
 unfold kE.f mC;by_cases hb:lZ cs=true
 ·rw[if_pos hb];exact ajW cs hs p hb cs 0 rfl (by omega)
 ·rw[if_neg hb];(have aU:lZ cs=false:=by simpa using hb);have fin:Ev (fun k=>kE.j1 k cs p 0 false) (-1,-1):=by
   refine Ev.succ ?_;simp only[kE.j1];exact Ev.neg (by simp) (Ev.ret _)
  refine Ev.succ ?_;simp only[kE.l0];by_cases c:(0:Int)<cs.length
  ·refine Ev.pos c (Ev.bind (TN cs hs) ?_);rw[aU];exact fin
  ·exact Ev.neg c fin
theorem Ob: ∀(cs:List aT) (p i:Int),(∀c ∈ cs,jx c.f2 p<0)→qK cs p i=(-1,-1)
 | [],p,i,_=>rfl
 |c::cs,p,i,h=>by
  have:=h c (by simp);rw[qK];rw[if_neg (by omega)];exact Ob cs p (i+1) (fun d hd=>h d (by simp[hd]))
theorem UO: ∀(l1:List aT) (c:aT) (l2:List aT) (p i:Int),(∀x ∈ l1,jx x.f2 p<0)→0≤jx c.f2 p→qK (l1++c::l2) p i=(i+l1.length,(ah c.f2 (jx c.f2 p)).f0)
 | [],c,l2,p,i,_,h=>by
  rw[List.nil_append,qK];rw[if_pos h];simp
 |x::l1,c,l2,p,i,hx,h=>by
  have:=hx x (by simp);rw[List.cons_append,qK];rw[if_neg (by omega),UO l1 c l2 p (i+1) (fun y hy=>hx y (by simp[hy])) h,List.length_cons]
  congr 1
  omega
theorem ajX(cs:List aT)(p:Int):Ev (fun _=>mg.f cs p) (mC cs p):=by
 unfold mg.f;refine Ev.bind (Ev.const rfl) (Ev.bind (Ev.const rfl) ?_);by_cases hb:lZ cs=true
 ·(have e:mC cs p=qK cs p 0:=by unfold mC;rw[if_pos hb]);rw[e];refine Ev.pos hb ?_;by_cases hp:p<1
  ·refine Ev.pos hp ((Ev.ret _).to ?_);rw[Ob cs p 0 (fun c _=>by unfold jx;rw[if_neg (by omega)];omega)]
  ·refine Ev.neg hp ?_;(have eI: ∀l:List ai,jx l p=eO l p 0:=fun l=>by unfold jx;rw[if_pos (by omega)]);rcases WS cs p 0 (Int.le_refl _)with⟨h1,h2⟩|⟨l1,c,l2,h1,h2,h3,h4⟩
   ·rw[h1];refine Ev.pos (by omega) ((Ev.ret _).to ?_);rw[Ob cs p 0 (fun c hc=>by rw[eI];exact h2 c hc)]
   ·rw[h4];have hlen:=congrArg List.length h1;simp at hlen;have er:av cs (0+(l1.length:Int))=c:=by
     show cs.getD (0+(l1.length:Int)).toNat _=c;rw[show(0+(l1.length:Int)).toNat=l1.length by omega,h1,List.getD_eq_getElem?_getD,List.getElem?_append_right (Nat.le_refl _),Nat.sub_self];rfl
    refine Ev.neg (by omega) (Ev.pos (by omega) (Ev.pos (by omega) ?_));rw[er];refine Ev.bind (Ev.const rfl) ?_;have hlt:=ad5 c.f2 p;refine Ev.pos h2 (Ev.pos hlt ((Ev.ret _).to ?_));rw[h1,UO l1 c l2 p 0 (fun x hx=>by rw[eI];exact h3 x hx) (by rw[eI];exact h2),eI]
 ·(have e:mC cs p=(-1,-1):=by unfold mC;rw[if_neg hb]);rw[e];exact Ev.neg hb (Ev.ret _)
theorem RX(l:List ai):mF [] l↔(∀b ∈ l,0≤b.f2∧b.f2≤999)∧l.Pairwise (fun a b=>0<b.f2→a.f2≠b.f2):=by
 rw[aeR];constructor
 ·rintro⟨h1,_,h3⟩;exact⟨h1,h3⟩
 ·rintro⟨h1,h3⟩;exact⟨h1,fun _ _ _=>by simp,h3⟩
theorem RW{A N B:List ai}(hN: ∀b ∈ N,b.f2=0):mF [] (A++N++B)↔mF [] (A++B):=by
 rw[RX,RX,List.append_assoc,List.pairwise_append,List.pairwise_append,List.pairwise_append];constructor
 ·rintro⟨h1,h2,⟨_,h3,_⟩,h4⟩;refine⟨fun b hb=>h1 b ?_,h2,h3,fun a ha b hb=>h4 a ha b (by simp[hb])⟩;rcases List.mem_append.mp hb with hb|hb<;>simp[hb]
 ·rintro⟨h1,h2,h3,h4⟩;refine⟨fun b hb=>?_,h2,⟨?_,h3,fun a ha b hb h0=>?_⟩,fun a ha b hb h0=>?_⟩
  ·rcases List.mem_append.mp hb with hb|hb
   ·exact h1 b (by simp[hb])
   ·rcases List.mem_append.mp hb with hb|hb
    ·rw[hN b hb];omega
    ·exact h1 b (by simp[hb])
  ·exact List.pairwise_of_forall_mem_list (fun a ha b hb h0=>by rw[hN b hb]at h0;omega)
  ·rw[hN a ha];omega
  ·rcases List.mem_append.mp hb with hb|hb
   ·rw[hN b hb]at h0;omega
   ·exact h4 a ha b hb h0
theorem aqx{A B:List ai}{x:ai}(h:mF [] (A++B))(hx:1≤x.f2∧x.f2≤999)(hn: ∀b ∈ A++B,b.f2≠x.f2):mF [] (A++x::B):=by
 rw[RX,List.pairwise_append]at h⊢;obtain⟨h1,h2,h3,h4⟩:=h;refine⟨fun b hb=>?_,h2,List.pairwise_cons.mpr ⟨fun b hb _ e=>hn b (by simp[hb]) e.symm,h3⟩,fun a ha b hb h0=>?_⟩
 ·rcases List.mem_append.mp hb with hb|hb
  ·exact h1 b (by simp[hb])
  ·rcases List.mem_cons.mp hb with rfl|hb
   ·omega
   ·exact h1 b (by simp[hb])
 ·rcases List.mem_cons.mp hb with rfl|hb
  ·exact hn a (by simp[ha])
  ·exact h4 a ha b hb h0
theorem jI.put{h:Int}{fx:List Int}{bx A R B N:List ai}(v:jI h fx bx)(hr:sB fx bx A R B)(hN:jl (gx R) N (gx R+eP R))(hne:N≠ [])(hp:mF [] (A++N++B)):jI h fx (A++N++B):=by
 have ht:=v.nc;rw[←hr.all]at ht;refine⟨v.hi,af1 ht hr.ne hN,hp,v.fix,fun f hf=>?_⟩;obtain⟨b,hb,e⟩:=v.low f hf;rw[←hr.all]at hb;rcases List.mem_append.mp hb with hb|hb
 ·rcases List.mem_append.mp hb with hb|hb
  ·exact⟨b,by simp[hb],e⟩
  ·have hfree:=hr.free;have hlo:gx R=f:=by
    cases R with
    |nil=>exact absurd rfl hr.ne
    |cons r R=>
     rcases List.mem_cons.mp hb with rfl|hb
     ·exact e
     ·exact absurd (by rw[e];exact hf) (hfree b hb)
   cases N with
   |nil=>exact absurd rfl hne
   |cons n N=>exact⟨n,by simp,by rw[hN.1,hlo]⟩
 ·exact⟨b,by simp[hb],e⟩
theorem sB.zero{fx:List Int}{bx A R B:List ai}(hr:sB fx bx A R B): ∀b ∈ R,b.f2=0:=by
 intro b hb;have:=hr.opn b hb;unfold kj at this;simp only[Bool.and_eq_true,decide_eq_true_eq]at this;exact this.1
theorem sB.mF{h:Int}{fx:List Int}{bx A R B:List ai}(v:jI h fx bx)(hr:sB fx bx A R B):mF [] (A++B):=by
 have:=v.par;rw[←hr.all]at this;exact(RW hr.zero).mp this
def LF(h:Int)(fx:List Int)(bx:List ai)(p size:Int):List ai×Int×Bool:=
 match lq size (rG h fx bx)with
 |some g=>if(1≤p∧p≤999)∧jx bx p<0 then(oK g.f1 g.f2 (eC g.f1 g.f2 p size) bx,g.f1,true)else(bx,-1,false)
 |none=>(bx,-1,false)
theorem aee{lo sz p size:Int}(h1:1≤size)(h2:size≤sz):jl lo (eC lo sz p size) (lo+sz):=by
 unfold eC;by_cases c:size<sz
 ·rw[if_pos c];exact⟨rfl,h1,rfl,by show 1≤sz-size;omega,by show lo+size+(sz-size)=_;omega⟩
 ·rw[if_neg c];exact⟨rfl,h1,by show lo+size=_;omega⟩
theorem aqB{h:Int}{fx:List Int}{bx:List ai}(v:jI h fx bx){p size:Int}{g:br}(hg:lq size (rG h fx bx)=some g)(hp:1≤p∧p≤999)(hb:jx bx p<0):
  ∃A R B,sB fx bx A R B∧g=⟨0,gx R,eP R⟩∧1≤size∧size≤eP R∧0≤gx R∧gx R+eP R≤24∧(∀N,oK g.f1 g.f2 N bx=A++N++B)∧(∀N,vO g.f1 N bx (mT fx [] [] bx)=A++N++B)∧jI h fx (A++eC g.f1 g.f2 p size++B)∧(∀b ∈ A++B,b.f2≠p):=by
 obtain⟨hm,h1,h2,_⟩:=W5 hg;(have ec:rG h fx bx=iK fx bx:=by unfold rG;rw[if_pos ((nO _ _ _).mpr v)]);rw[ec]at hm;obtain⟨A,R,B,hr,e,f1,f2⟩:=abM fx bx 0 h v.nc g hm;(have e1:g.f1=gx R:=by rw[e]);(have e2:g.f2=eP R:=by rw[e]);have hq:=sB.mF v hr;have hn: ∀b ∈ A++B,b.f2≠p:=by
  intro b hb';have:=(aal bx p).mp hb (by omega) b;refine this ?_;rw[←hr.all];rcases List.mem_append.mp hb' with hb'|hb'<;>simp[hb']
 have hc:=(v.clr.step g (by exact hm)).2.1;refine⟨A,R,B,hr,e,h2,by rw[←e2];exact h1,by rw[←e1];exact hc.1,by rw[←e1,←e2];exact hc.2.2,f1,f2,v.put hr ?_ ?_ ?_,hn⟩
 ·rw[e1,e2];exact aee h2 (by rw[←e2];exact h1)
 ·unfold eC;simp
 ·unfold eC;have hx:mF [] (A++(ai.mk g.f1 size p false)::B):=aqx hq (by exact hp) (by exact hn);(have e3:A++(ai.mk g.f1 size p false)::(if size<g.f2 then[(ai.mk (g.f1+size) (g.f2-size) 0 false)]else[])++B=(A++ [(ai.mk g.f1 size p false)])++(if size<g.f2 then[(ai.mk (g.f1+size) (g.f2-size) 0 false)]else[])++B:=by simp);rw[e3];refine(RW (fun b hb=>?_)).mpr (by rw[List.append_assoc];exact hx);split at hb
  ·rw[List.mem_singleton.mp hb]
  ·simp at hb
theorem aE3{h:Int}{fx:List Int}{bx:List ai}(v:jI h fx bx)(p size:Int):jI h fx (LF h fx bx p size).1:=by
 unfold LF;cases hg:lq size (rG h fx bx)with
 |none=>exact v
 |some g=>
  dsimp only;by_cases c:(1≤p∧p≤999)∧jx bx p<0
  ·rw[if_pos c];obtain⟨A,R,B,_,_,_,_,_,_,f1,_,hv,_⟩:=aqB v hg c.1 c.2;rw[f1];exact hv
  ·rw[if_neg c];exact v
def vE(a:Int)(bx:List ai):Prop:= ∀b ∈ bx,b.f2=0∨(a≤b.f2∧b.f2≤a+5)
theorem aE2{h:Int}{fx:List Int}{bx:List ai}{a:Int}(hp:vE a bx)(p size:Int)(h0:a≤p∧p≤a+5):vE a (LF h fx bx p size).1:=by
 unfold LF;cases hg:lq size (rG h fx bx)with
 |none=>exact hp
 |some g=>
  dsimp only;by_cases c:(1≤p∧p≤999)∧jx bx p<0
  ·rw[if_pos c];intro b hb;unfold oK at hb;obtain⟨x,hx,hb⟩:=List.mem_flatMap.mp hb;rcases List.mem_append.mp hb with hb|hb
   ·split at hb
    ·unfold eC at hb;rcases List.mem_cons.mp hb with rfl|hb
     ·exact Or.inr h0
     ·split at hb
      ·rw[List.mem_singleton.mp hb];exact Or.inl rfl
      ·simp at hb
    ·simp at hb
   ·split at hb
    ·rw[List.mem_singleton.mp hb];exact hp x hx
    ·simp at hb
  ·rw[if_neg c];exact hp
theorem LG{A B:List ai}{b:ai}:ah (A++b::B) (A.length:Int)=b:=by
 show(A++b::B).getD A.length _=b;rw[List.getD_eq_getElem?_getD,List.getElem?_append_right (Nat.le_refl _),Nat.sub_self];rfl
theorem aqS{A B:List ai}{b x:ai}:(A++b::B).set A.length x=A++x::B:=by
 rw[List.set_append_right _ _ (Nat.le_refl _),Nat.sub_self];rfl
theorem art(h:Int)(fx:List Int)(bx:List ai)(p:Int):Ad h fx bx p=(bx,false)∨ ∃A b B,bx=A++b::B∧b.f2=p∧0<p∧b.f3=false∧(∀x ∈ A,x.f2≠p)∧Ad h fx bx p=(A++⟨b.f0,b.f1,0,b.f3⟩::B,true):=by
 by_cases c:hO h fx bx=true∧0<p∧0≤eO bx p 0∧(ah bx (eO bx p 0)).f3=false
 ·rcases Ip bx p with⟨h1,_⟩|⟨A,b,B,h1,h2,h3,h4⟩
  ·have:=c.2.2.1;omega
  ·refine Or.inr ⟨A,b,B,h1,h2,c.2.1,?_,h3,?_⟩
   ·have:=c.2.2.2;rw[h4,h1,LG]at this;exact this
   ·rw[XP c,h4];rw[h1,LG,Int.toNat_natCast,aqS]
 ·exact Or.inl (DO c)
theorem arw: ∀(a b:List ai) (lo hi:Int),a.map (fun x=>(x.f0,x.f1))=b.map (fun x=>(x.f0,x.f1))→jl lo a hi→jl lo b hi
 | [],[],_,_,_,h=>h
 | [],_::_,_,_,e,_=>by simp at e
 |_::_,[],_,_,e,_=>by simp at e
 |x::a,y::b,lo,hi,e,h=>by
  simp only[List.map_cons,List.cons.injEq,Prod.mk.injEq]at e;obtain⟨⟨e1,e2⟩,e3⟩:=e;obtain⟨h1,h2,h3⟩:=h;exact⟨by rw[←e1];exact h1,by rw[←e2];exact h2,by rw[←e2];exact arw a b _ hi e3 h3⟩
theorem aEz{a b:List ai}(e:a.map (fun x=>(x.f0,x.f1))=b.map (fun x=>(x.f0,x.f1))){f:Int}(h: ∃x ∈ a,x.f0=f): ∃x ∈ b,x.f0=f:=by
 obtain⟨x,hx,hf⟩:=h;(have:(x.f0,x.f1)∈ b.map (fun x=>(x.f0,x.f1)):=by rw[←e];exact List.mem_map.mpr ⟨x,hx,rfl⟩);obtain⟨y,hy,e2⟩:=List.mem_map.mp this;simp only[Prod.mk.injEq]at e2;exact⟨y,hy,by rw[e2.1];exact hf⟩
theorem jI.same{h:Int}{fx:List Int}{a b:List ai}(v:jI h fx a)(e:a.map (fun x=>(x.f0,x.f1))=b.map (fun x=>(x.f0,x.f1)))(hp:mF [] b):jI h fx b:=
 ⟨v.hi,arw a b 0 h e v.nc,hp,v.fix,fun f hf=>aEz e (v.low f hf)⟩
theorem aF5{h:Int}{fx:List Int}{bx:List ai}(v:jI h fx bx)(p:Int):jI h fx (Ad h fx bx p).1:=by
 rcases art h fx bx p with e|⟨A,b,B,h1,h2,h3,_,_,e⟩
 ·rw[e];exact v
 ·rw[e];refine v.same (by rw[h1];simp) ?_;have hv:=v.par;rw[h1]at hv;(have e2:A++(ai.mk b.f0 b.f1 0 b.f3)::B=A++ [(ai.mk b.f0 b.f1 0 b.f3)]++B:=by simp);show mF [] (A++(ai.mk b.f0 b.f1 0 b.f3)::B);rw[e2];refine(RW (by simp)).mpr ?_;rw[RX,List.pairwise_append]at hv⊢;obtain⟨g1,g2,g3,g4⟩:=hv;refine⟨fun x hx=>g1 x ?_,g2,(List.pairwise_cons.mp g3).2,fun a ha x hx=>g4 a ha x (by simp[hx])⟩;rcases List.mem_append.mp hx with hx|hx<;>simp[hx]
theorem aF4{h:Int}{fx:List Int}{bx:List ai}{a:Int}(hp:vE a bx)(p:Int):vE a (Ad h fx bx p).1:=by
 rcases art h fx bx p with e|⟨A,b,B,h1,h2,h3,_,_,e⟩
 ·rw[e];exact hp
 ·rw[e];intro x hx;rcases List.mem_append.mp hx with hx|hx
  ·exact hp x (by rw[h1];simp[hx])
  ·rcases List.mem_cons.mp hx with rfl|hx
   ·exact Or.inl rfl
   ·exact hp x (by rw[h1];simp[hx])
theorem ap1(unit:Int)(j:Bool): ∀(l:List ai),(DG unit j l).1.map (fun x=>(x.f0,x.f1,x.f2))=l.map (fun x=>(x.f0,x.f1,x.f2))
 | []=>rfl
 |b::l=>by
  simp only[DG];split
  ·rfl
  ·simp[ap1 unit j l]
theorem ap2(h:Int)(fx:List Int)(bx:List ai)(unit:Int)(j:Bool):(Fp h fx bx unit j).1.map (fun x=>(x.f0,x.f1,x.f2))=bx.map (fun x=>(x.f0,x.f1,x.f2)):=by
 unfold Fp;split
 ·exact ap1 unit j bx
 ·rfl
theorem aqw{a b:List ai}(e:a.map (fun x=>(x.f0,x.f1,x.f2))=b.map (fun x=>(x.f0,x.f1,x.f2))){P:Int→Prop}(h: ∀x ∈ a,P x.f2): ∀x ∈ b,P x.f2:=by
 intro x hx;(have:(x.f0,x.f1,x.f2)∈ a.map (fun x=>(x.f0,x.f1,x.f2)):=by rw[e];exact List.mem_map.mpr ⟨x,hx,rfl⟩);obtain⟨y,hy,e2⟩:=List.mem_map.mp this;simp only[Prod.mk.injEq]at e2;rw[←e2.2.2];exact h y hy
theorem aEo{h:Int}{fx:List Int}{bx:List ai}(v:jI h fx bx)(unit:Int)(j:Bool):jI h fx (Fp h fx bx unit j).1:=by
 have e:=ap2 h fx bx unit j;have e1:=congrArg (List.map (fun x:Int×Int×Int=>(x.1,x.2.1))) e;rw[List.map_map,List.map_map]at e1;refine v.same e1.symm ?_;have hv:=v.par;rw[RX]at hv⊢;have e2:=congrArg (List.map (fun x:Int×Int×Int=>x.2.2)) e;rw[List.map_map,List.map_map]at e2;refine⟨aqw (P:=fun x=>0≤x∧x≤999) e.symm hv.1,?_⟩;have g:(bx.map (fun x=>x.f2)).Pairwise (fun a b=>0<b→a≠b):=List.pairwise_map.mpr hv.2;have g2:((Fp h fx bx unit j).1.map (fun x=>x.f2)).Pairwise (fun a b=>0<b→a≠b):=by
  have e3:(Fp h fx bx unit j).1.map (fun x=>x.f2)=bx.map (fun x=>x.f2):=e2;rw[e3];exact g
 exact List.pairwise_map.mp g2
theorem aEn{h:Int}{fx:List Int}{bx:List ai}{a:Int}(hp:vE a bx)(unit:Int)(j:Bool):vE a (Fp h fx bx unit j).1:=
 aqw (P:=fun x=>x=0∨(a≤x∧x≤a+5)) (ap2 h fx bx unit j).symm hp
theorem jI.ne{h:Int}{fx:List Int}{bx:List ai}(v:jI h fx bx):0<bx.length:=by
 cases bx with
 |nil=>
  have:=v.nc;have:=v.hi;simp only[jl]at*;omega
 |cons x l=>simp
def nC:Option br→Int×Int×Int×Bool
 |none=>(0,0,0,false)
 |some g=>(g.f0,g.f1,g.f2,true)
theorem aqb(l:List br)(hl:l.length≤1048576)(size:Int): ∀(rest:List br) (i:Nat) (best:Option br),l.drop i=rest→i≤l.length→
  Ev (fun k=>pI.l0 k size (nC best).2.2.2 l (l.length:Int) (i:Int) (nC best).1 (nC best).2.1 (nC best).2.2.1) (nC (rV size best rest))
 | [],i,best,hd,hi=>by
  have he:=l9 hd hi;refine Ev.succ ?_;simp only[pI.l0,rV];exact Ev.neg (by omega) (Ev.ret _)
 |g::rest,i,best,hd,hi=>by
  obtain⟨h1,h2,h3⟩:=mb xR hd;have er:cu l (i:Int)=g:=h2;have ih:=fun best=>aqb l hl size rest (i+1) best h3 (by omega);have ih1:=ih (some g);have ih0:=ih best;refine Ev.succ ?_;simp only[pI.l0,er,rV];rw[jw i (by omega)];refine Ev.pos (by omega) (Ev.pos (by omega) (Ev.pos (by omega) ?_));by_cases c:g.f2≥size
  ·refine Ev.pos c ?_;cases best with
   |none=>
    rw[if_pos ⟨c,fun b hb=>by cases hb⟩];exact Ev.neg (by simp[nC]) ih1
   |some b=>
    refine Ev.pos (by simp[nC]) ?_;by_cases d:g.f2<b.f2
    ·rw[if_pos ⟨c,fun b' hb=>by cases hb;exact d⟩];exact Ev.pos d ih1
    ·rw[if_neg (fun e=>d (e.2 b rfl))];exact Ev.neg d ih0
  ·rw[if_neg (fun e=>c e.1)];exact Ev.neg c ih0
theorem aEy(l:List br)(hl:l.length≤1048576)(size:Int):Ev (fun k=>pI.f k l size) (nC (lq size l)):=by
 unfold pI.f lq;by_cases c:size<1
 ·rw[if_pos c];exact Ev.pos c (Ev.ret _)
 ·rw[if_neg c];exact Ev.neg c (aqb l hl size l 0 none rfl (by omega))
structure vt(size:Int)(l l1:List br)(g:br)(l2:List br):Prop where
 all:l=l1++g::l2
 enough:size≤g.f2
 ahead: ∀x ∈ l1,x.f2<size∨g.f2<x.f2
 behind: ∀x ∈ l2,x.f2<size∨g.f2≤x.f2
theorem vt.uniq{size:Int}: ∀{l1 RP:List br} {l:List br} {g g':br} {l2 Iz:List br},vt size l l1 g l2→vt size l RP g' Iz→l1=RP∧g=g'∧l2=Iz
 | [],[],l,g,g',l2,Iz,h,h'=>by
  have e:=h.all.symm.trans h'.all;simp at e;exact⟨rfl,e.1,e.2⟩
 | [],x::RP,l,g,g',l2,Iz,h,h'=>by
  have e:=h.all.symm.trans h'.all;simp at e;have a:=h'.ahead x (by simp);have b:=h.behind g' (by rw[e.2];simp);have c:=h.enough;have d:=h'.enough;rw[←e.1]at a;omega
 |x::l1,[],l,g,g',l2,Iz,h,h'=>by
  have e:=h.all.symm.trans h'.all;simp at e;have a:=h.ahead x (by simp);have b:=h'.behind g (by rw[←e.2];simp);have c:=h.enough;have d:=h'.enough;rw[e.1]at a;omega
 |x::l1,y::RP,l,g,g',l2,Iz,h,h'=>by
  have e:=h.all.symm.trans h'.all;simp at e;have k:vt size (l1++g::l2) l1 g l2:=⟨rfl,h.enough,fun z hz=>h.ahead z (by simp[hz]),h.behind⟩;have k':vt size (l1++g::l2) RP g' Iz:=⟨e.2,h'.enough,fun z hz=>h'.ahead z (by simp[hz]),h'.behind⟩;obtain⟨a,b,c⟩:=vt.uniq k k';exact⟨by rw[e.1,a],b,c⟩
theorem aEw{size:Int}{l l1:List br}{g:br}{l2:List br}(h:vt size l l1 g l2):rV size none l=some g:=by
 rcases W6 size l with⟨_,h2⟩|⟨k1,y,k2,h0,h1,h2,h4,h5⟩
 ·have:=h2 g (by rw[h.all];simp);have:=h.enough;omega
 ·obtain⟨_,e,_⟩:=vt.uniq h ⟨h0,h2,h4,h5⟩;rw[h1,e]
theorem aEx{size:Int}{l:List br}(h: ∀x ∈ l,x.f2<size):rV size none l=none:=by
 rcases W6 size l with⟨h1,_⟩|⟨k1,y,k2,h0,h1,h2,h4,h5⟩
 ·exact h1
 ·have:=h y (by rw[h0];simp);omega
theorem aqa(l:List br)(hl:l.length≤1048576)(size:Int): ∀(rest:List br) (i:Nat) (x:Int),l.drop i=rest→i≤l.length→
  ((x= -1∧ ∀y ∈ l.take i,y.f2<size)∨ ∃l1 g l2,vt size (l.take i) l1 g l2∧x=(l1.length:Int))→
  ∃r:Int,Ev (fun k=>kS.l0 k l size x (i:Int)) r∧((r= -1∧ ∀y ∈ l,y.f2<size)∨ ∃l1 g l2,vt size l l1 g l2∧r=(l1.length:Int))
 | [],i,x,hd,hi,hx=>by
  have he:=l9 hd hi;refine⟨x,Ev.succ ?_,?_⟩
  ·simp only[kS.l0];exact Ev.neg (by omega) (Ev.ret _)
  ·rw[he,List.take_length]at hx;exact hx
 |g::rest,i,x,hd,hi,hx=>by
  obtain⟨h1,h2,h3⟩:=mb xR hd;have er:cu l (i:Int)=g:=h2;have et:l.take (i+1)=l.take i++ [g]:=by
   rw[List.take_add_one,←h2,List.getD_eq_getElem?_getD,List.getElem?_eq_getElem h1];rfl
  have ih:=fun y=>aqa l hl size rest (i+1) y h3 (by omega);have new:size≤g.f2→(∀y ∈ l.take i,y.f2<size∨g.f2<y.f2)→((i:Int)= -1∧ ∀y ∈ l.take (i+1),y.f2<size)∨ ∃l1 g' l2,vt size (l.take (i+1)) l1 g' l2∧(i:Int)=(l1.length:Int):=by
   intro a b;exact Or.inr ⟨l.take i,g,[],⟨et,a,b,by simp⟩,by rw[List.length_take];omega⟩
  rcases hx with⟨hx,hn⟩|⟨l1,b,l2,hb,hx⟩
  ·by_cases c:g.f2≥size
   ·obtain⟨r,hr,hp⟩:=ih (i:Int) (new c (fun y hy=>Or.inl (hn y hy)));refine⟨r,Ev.succ ?_,hp⟩;simp only[kS.l0,er];rw[jw i (by omega)];exact Ev.pos (by omega) (Ev.pos (by omega) (Ev.pos c (Ev.pos (by omega) hr)))
   ·obtain⟨r,hr,hp⟩:=ih x (Or.inl ⟨hx,fun y hy=>by
     rw[et]at hy;rcases List.mem_append.mp hy with hy|hy
     ·exact hn y hy
     ·rw[List.mem_singleton.mp hy];omega⟩)
    refine⟨r,Ev.succ ?_,hp⟩;simp only[kS.l0,er];rw[jw i (by omega)];exact Ev.pos (by omega) (Ev.pos (by omega) (Ev.neg c hr))
  ·have hlen:l1.length<i:=by
    have:=congrArg List.length hb.all;rw[List.length_take]at this;simp at this;omega
   have eb:cu l x=b:=by
    rw[hx];show l.getD l1.length _=b;have e1:l.getD l1.length xR=(l.take i).getD l1.length xR:=by
     rw[List.getD_eq_getElem?_getD,List.getD_eq_getElem?_getD,List.getElem?_take_of_lt hlen]
    rw[e1,hb.all,List.getD_eq_getElem?_getD,List.getElem?_append_right (Nat.le_refl _),Nat.sub_self];rfl
   have old:(g.f2<size∨b.f2≤g.f2)→(x= -1∧ ∀y ∈ l.take (i+1),y.f2<size)∨ ∃l1 g' l2,vt size (l.take (i+1)) l1 g' l2∧x=(l1.length:Int):=by
    intro a;refine Or.inr ⟨l1,b,l2++ [g],⟨by rw[et,hb.all];simp,hb.enough,hb.ahead,fun y hy=>?_⟩,hx⟩;rcases List.mem_append.mp hy with hy|hy
    ·exact hb.behind y hy
    ·rw[List.mem_singleton.mp hy];exact a
   by_cases c:g.f2≥size
   ·by_cases d:g.f2<b.f2
    ·obtain⟨r,hr,hp⟩:=ih (i:Int) (new c (fun y hy=>by
      rw[hb.all]at hy;rcases List.mem_append.mp hy with hy|hy
      ·have:=hb.ahead y hy;omega
      ·rcases List.mem_cons.mp hy with rfl|hy
       ·exact Or.inr d
       ·have:=hb.behind y hy;omega))
     refine⟨r,Ev.succ ?_,hp⟩;simp only[kS.l0,er,eb];rw[jw i (by omega)];exact Ev.pos (by omega) (Ev.pos (by omega) (Ev.pos c (Ev.neg (by omega) (Ev.pos (by omega) (Ev.pos (by omega) (Ev.pos d hr))))))
    ·obtain⟨r,hr,hp⟩:=ih x (old (by omega));refine⟨r,Ev.succ ?_,hp⟩;simp only[kS.l0,er,eb];rw[jw i (by omega)];exact Ev.pos (by omega) (Ev.pos (by omega) (Ev.pos c (Ev.neg (by omega) (Ev.pos (by omega) (Ev.pos (by omega) (Ev.neg d hr))))))
   ·obtain⟨r,hr,hp⟩:=ih x (old (by omega));refine⟨r,Ev.succ ?_,hp⟩;simp only[kS.l0,er];rw[jw i (by omega)];exact Ev.pos (by omega) (Ev.pos (by omega) (Ev.neg c hr))
theorem aEv(l:List br)(hl:l.length≤1048576)(size:Int): ∃r:Int,Ev (fun k=>kS.f k l size) r∧((r= -1∧ ∀y ∈ l,y.f2<size)∨ ∃l1 g l2,vt size l l1 g l2∧r=(l1.length:Int)):=by
 unfold kS.f;exact aqa l hl size l 0 (-1) rfl (by omega) (Or.inl ⟨rfl,by simp⟩)
theorem ak5(l:List br)(hl:l.length≤1048576)(size:Int): ∃r:Int,Ev (fun k=>kS.f k l size) r∧
  Ev (fun _=>if size<1 then some (0,0,0,false)else(if r<0 then some (0,0,0,false)else(if 0≤r then(if r<(l.length:Int)then some ((cu l r).f0,(cu l r).f1,(cu l r).f2,true)else none)else none))) (nC (lq size l)):=by
 obtain⟨r,h1,h2⟩:=aEv l hl size;refine⟨r,h1,?_⟩;by_cases c:size<1
 ·(have e:lq size l=none:=by unfold lq;rw[if_pos c]);rw[e];exact Ev.pos c (Ev.ret _)
 ·refine Ev.neg c ?_;(have e:lq size l=rV size none l:=by unfold lq;rw[if_neg c]);rw[e];rcases h2 with⟨h2,h3⟩|⟨l1,g,l2,h2,h3⟩
  ·rw[aEx h3];exact Ev.pos (by omega) (Ev.ret _)
  ·rw[aEw h2];have hlen:=congrArg List.length h2.all;simp at hlen;have eb:cu l r=g:=by
    rw[h3];show l.getD l1.length _=g;rw[h2.all,List.getD_eq_getElem?_getD,List.getElem?_append_right (Nat.le_refl _),Nat.sub_self];rfl
   rw[eb];exact Ev.neg (by omega) (Ev.pos (by omega) (Ev.pos (by omega) (Ev.ret _)))
theorem azj(h:Int)(fx:List Int)(hf:fx.length≤1048576)(bx:List ai)(hb:bx.length≤1048576)(size:Int):Ev (fun k=>Jt.f k h fx bx size) (nC (lq size (rG h fx bx))):=by
 unfold Jt.f;refine Ev.bind (alc h fx hf bx hb) ?_;have:=azl h fx bx;obtain⟨r,h1,h2⟩:=ak5 (rG h fx bx) (by omega) size;exact Ev.bind h1 h2
def ahD(a b:br):Prop:=a.f0<b.f0∨(a.f0=b.f0∧a.f1<b.f1)
theorem ajD: ∀(cs:List aT) (k:Int),∀g ∈ ij k cs,k≤g.f0
 | [],_,g,hg=>by simp[ij]at hg
 |c::cs,k,g,hg=>by
  rw[ij]at hg;rcases List.mem_append.mp hg with hg|hg
  ·obtain⟨x,_,rfl⟩:=List.mem_map.mp hg;exact Int.le_refl _
  ·have:=ajD cs (k+1) g hg;omega
theorem ajC: ∀(cs:List aT) (k:Int),(∀c ∈ cs,∃h,jl 0 c.f2 h)→(ij k cs).Pairwise ahD
 | [],_,_=>List.Pairwise.nil
 |c::cs,k,h=>by
  obtain⟨hi,ht⟩:=h c (by simp);rw[ij,List.pairwise_append];refine⟨?_,ajC cs (k+1) (fun d hd=>h d (by simp[hd])),fun a ha b hb=>?_⟩
  ·rw[List.pairwise_map];have:=(Og c.f1 c.f2 [] 0 hi ht (fun c=>absurd rfl c)).1;exact List.Pairwise.imp (fun hab=>Or.inr ⟨rfl,hab⟩) this
  ·obtain⟨x,_,rfl⟩:=List.mem_map.mp ha;have:=ajD cs (k+1) b hb;exact Or.inl (by show k<b.f0;omega)
theorem ajB: ∀(a b:List aT) (k:Int),ij k (a++b)=ij k a++ij (k+a.length) b
 | [],b,k=>by simp[ij]
 |c::a,b,k=>by
  rw[List.cons_append,ij,ij,ajB a b (k+1),List.append_assoc,List.length_cons]
  congr 3
  omega
theorem UW(fx:List Int): ∀(bs cur:List ai),∀g ∈ fR fx cur bs,g.f0=0
 | [],cur,g,hg=>by
  simp only[fR,fY]at hg;split at hg
  ·simp at hg
  ·next h=>rw[List.mem_singleton.mp hg,yJ h]
 |b::bs,cur,g,hg=>by
  have em: ∀g ∈ fY cur,g.f0=0:=by
   intro g hg;unfold fY at hg;split at hg
   ·simp at hg
   ·next h=>rw[List.mem_singleton.mp hg,yJ h]
  simp only[fR]at hg;split at hg
  ·split at hg
   ·exact UW fx bs _ g hg
   ·rcases List.mem_append.mp hg with hg|hg
    ·exact em g hg
    ·exact UW fx bs _ g hg
  ·rcases List.mem_append.mp hg with hg|hg
   ·exact em g hg
   ·exact UW fx bs _ g hg
theorem ajF: ∀(cs:List aT) (k:Int) (g:br),g ∈ ij k cs→ ∃C1 c C2,cs=C1++c::C2∧g.f0=k+C1.length∧(br.mk 0 g.f1 g.f2)∈ iK c.f1 c.f2
 | [],_,g,hg=>by simp[ij]at hg
 |c::cs,k,g,hg=>by
  rw[ij]at hg;rcases List.mem_append.mp hg with hg|hg
  ·obtain⟨x,hx,rfl⟩:=List.mem_map.mp hg;refine⟨[],c,cs,rfl,by simp,?_⟩;have:=UW c.f1 c.f2 [] x hx;(have e:(br.mk 0 x.f1 x.f2)=x:=by rw[←this]);rw[e];exact hx
  ·obtain⟨C1,d,C2,h1,h2,h3⟩:=ajF cs (k+1) g hg;exact⟨c::C1,d,C2,by rw[h1];rfl,by rw[h2,List.length_cons];omega,h3⟩
structure MR(cs:List aT):Prop where
 len:cs.length≤6
 fix: ∀c ∈ cs,c.f1.length≤1048576
 nc: ∀c ∈ cs,∃h,h≤24∧jl 0 c.f2 h
theorem MR.flat{cs:List aT}(g:MR cs):Flat cs:=by
 refine⟨g.len,g.fix,fun c hc=>?_,fun c hc b hb=>?_⟩
 ·obtain⟨h,h1,h2⟩:=g.nc c hc;have:=uc _ _ _ h2;omega
 ·obtain⟨h,h1,h2⟩:=g.nc c hc;have:=DQ _ _ _ h2 b hb;omega
theorem xY.geo{cs:List aT}(v:xY cs)(hs:Small cs):MR cs:=
 ⟨by have:=v.len;omega,fun c hc=>(hs.2 c hc).1,fun c hc=>⟨c.f0,((nO _ _ _).mp (v.col c hc)).hi.2,((nO _ _ _).mp (v.col c hc)).nc⟩⟩
def tU(g:br)(p s:Int)(c:aT):aT:=⟨c.f0,c.f1,vO g.f1 (eC g.f1 g.f2 p s) c.f2 (mT c.f1 [] [] c.f2)⟩
def aqK(g:br)(s:Int):List br:=if s<g.f2 then[⟨g.f0,g.f1+s,g.f2-s⟩]else[]
theorem ajM{cs:List aT}(hg:MR cs){g:br}(hm:g ∈ ij 0 cs){p s:Int}(hp:p≠0)(hs:1≤s)(hle:s≤g.f2):
  ∃C1 c C2 P Q A R B h,cs=C1++c::C2∧g.f0=C1.length∧ij 0 cs=P++g::Q∧ij 0 (C1++tU g p s c::C2)=P++aqK g s++Q∧MR (C1++tU g p s c::C2)∧g ∉ P∧
   (0≤g.f1∧g.f1+g.f2≤24)∧sB c.f1 c.f2 A R B∧g.f1=gx R∧g.f2=eP R∧jl 0 c.f2 h∧(tU g p s c).f2=A++eC g.f1 g.f2 p s++B∧(∀N,oK g.f1 g.f2 N c.f2=A++N++B):=by
 obtain⟨C1,c,C2,h1,h2,h3⟩:=ajF cs 0 g hm;(have hc:c ∈ cs:=by rw[h1];simp);obtain⟨h,hh,ht⟩:=hg.nc c hc;obtain⟨A,R,B,hr,e,f1,f2⟩:=abM c.f1 c.f2 0 h ht _ h3;simp only[br.mk.injEq]at e;obtain⟨_,e1,e2⟩:=e;dsimp only at f1 f2;(have hN:jl (gx R) (eC g.f1 g.f2 p s) (gx R+eP R):=by rw[←e1,←e2];exact aee hs hle);have ayP:Cut c.f1 (eC g.f1 g.f2 p s):=by
  unfold eC;refine Or.inl ?_;unfold kj;dsimp only;rw[decide_eq_false hp];rfl
 have eGN:iK c.f1 (eC g.f1 g.f2 p s)=if s<g.f2 then[⟨0,g.f1+s,g.f2-s⟩]else[]:=by
  have o1:kj (ai.mk g.f1 s p false)=false:=by
   unfold kj;dsimp only;rw[decide_eq_false hp];rfl
  have o2:kj (ai.mk (g.f1+s) (g.f2-s) 0 false)=true:=rfl;have UC:fY []= []:=rfl;unfold iK eC;by_cases d:s<g.f2
  ·rw[if_pos d,if_pos d];simp only[fR];rw[if_neg (by rw[o1];simp),if_pos o2,if_neg (fun c=>c.1 rfl),UC];(have em2:fY [(ai.mk (g.f1+s) (g.f2-s) 0 false)]= [j5 [(ai.mk (g.f1+s) (g.f2-s) 0 false)]]:=by unfold fY;rw[if_neg (by simp)]);(have es:eP [(ai.mk (g.f1+s) (g.f2-s) 0 false)]=g.f2-s:=by rw[qq,m6];exact Int.add_zero _);rw[em2,yJ (by simp),es];rfl
  ·rw[if_neg d,if_neg d];simp only[fR];rw[if_neg (by rw[o1];simp),UC];rfl
 have abI:(tU g p s c).f2=A++eC g.f1 g.f2 p s++B:=f2 _;have ayQ:iK c.f1 (tU g p s c).f2=iK c.f1 A++(if s<g.f2 then[⟨0,g.f1+s,g.f2-s⟩]else[])++iK c.f1 B:=by
  rw[abI,afu hr _ (by unfold eC;simp) (Or.inr ayP),eGN]
 have eg:(br.mk g.f0 g.f1 g.f2)=g:=rfl;have amg: ∀d:aT,ij 0 (C1++d::C2)=ij 0 C1++(iK d.f1 d.f2).map (fun x=>⟨g.f0,x.f1,x.f2⟩)++ij (g.f0+1) C2:=by
  intro d;rw[ajB,ij,h2,List.append_assoc]
 have hP:ij 0 cs=(ij 0 C1++(iK c.f1 A).map (fun x=>⟨g.f0,x.f1,x.f2⟩))++g::((iK c.f1 B).map (fun x=>⟨g.f0,x.f1,x.f2⟩)++ij (g.f0+1) C2):=by
  rw[h1,amg,aqO hr,yJ hr.ne,←e1,←e2];simp
 refine⟨C1,c,C2,_,_,A,R,B,h,h1,by rw[h2];omega,hP,?_,⟨?_,?_,?_⟩,?_,?_,hr,e1,e2,ht,abI,f1⟩
 ·rw[amg,show(tU g p s c).f1=c.f1 from rfl,ayQ];unfold aqK;split<;>simp
 ·have:=hg.len;rw[h1]at this;simpa using this
 ·intro d hd;rcases List.mem_append.mp hd with hd|hd
  ·exact hg.fix d (by rw[h1];simp[hd])
  ·rcases List.mem_cons.mp hd with rfl|hd
   ·exact hg.fix c hc
   ·exact hg.fix d (by rw[h1];simp[hd])
 ·intro d hd;rcases List.mem_append.mp hd with hd|hd
  ·exact hg.nc d (by rw[h1];simp[hd])
  ·rcases List.mem_cons.mp hd with rfl|hd
   ·refine⟨h,hh,?_⟩;rw[abI];have Qf:=ht;rw[←hr.all]at Qf;exact af1 Qf hr.ne hN
   ·exact hg.nc d (by rw[h1];simp[hd])
 ·intro hin;have amf:=ajC cs 0 (fun d hd=>by obtain⟨x,_,hx⟩:=hg.nc d hd;exact⟨x,hx⟩);rw[hP,List.pairwise_append]at amf;have:=amf.2.2 g hin g (by simp);unfold ahD at this;omega
 ·have Qf:=ht;rw[←hr.all,DP,DP]at Qf;obtain⟨⟨ha,hb⟩,U1⟩:=Qf;have s1:=uc _ _ _ ha;have s3:=uc _ _ _ U1;rw[xG]at s3;have er:gx R=0+eP A:=by
   have hne:=hr.ne;cases R with
   |nil=>exact absurd rfl hne
   |cons x R=>exact hb.1
  rw[e1,e2];omega
theorem aE4{h:Int}{fx:List Int}(hf:fx.length≤1048576){bx:List ai}(hb:bx.length≤1048576)(p size:Int):Ev (fun k=>lN.f k h fx bx p size) (h,fx,LF h fx bx p size):=by
 unfold lN.f;refine Ev.bind (azj h fx hf bx hb size) ?_;have no: ∀g0 g1 g2,Ev (fun k=>lN.j0 k p size true h fx bx g0 g1 g2) (h,fx,bx,-1,false):=by
  intro g0 g1 g2;refine Ev.succ ?_;simp only[lN.j0];exact Ev.pos (by trivial) (Ev.bind (Uz h fx bx (by omega) (by omega)) (Ev.ret _))
 unfold LF;cases hg:lq size (rG h fx bx)with
 |none=>exact Ev.neg (by simp[nC]) (no _ _ _)
 |some g=>
  dsimp only;refine Ev.pos (by simp[nC]) (Ev.bind (Ev.const (Iv _ _ _)) ?_);by_cases c1:1≤p∧p≤999
  ·refine Ev.pos (decide_eq_true c1) (Ev.bind (TS h fx bx hb p) ?_);by_cases c2:jx bx p<0
   ·rw[if_pos ⟨c1,c2⟩,decide_eq_false (by omega)];have hc:hO h fx bx=true:=by
     apply Classical.byContradiction;intro hc;(have:rG h fx bx= []:=by unfold rG;rw[if_neg hc]);rw[this]at hg;simp[lq,rV]at hg
    have v:=(nO _ _ _).mp hc;obtain⟨A,R,B,_,e,h1,h2,h3,h4,_⟩:=aqB v hg c1 c2;(have e1:g.f1=gx R:=by rw[e]);(have e2:g.f2=eP R:=by rw[e]);refine Ev.succ ?_;simp only[lN.j0];refine Ev.neg (by simp) ?_;exact Ev.bind (ak2 h fx hf bx v.len g.f0 g.f1 g.f2 p size (by omega) (by omega) (by omega) (by omega) (by omega) (by omega)) (Ev.ret _)
   ·rw[if_neg (fun e=>c2 e.2),decide_eq_true (by omega)];exact no _ _ _
  ·rw[if_neg (fun e=>c1 e.1)];exact Ev.neg (by simpa using c1) (no _ _ _)
theorem aEX(h:Int)(fx:List Int)(hf:fx.length≤1048576)(bx:List ai)(hl:bx.length≤24)(hm: ∀b ∈ bx,1≤b.f1∧b.f1≤24)(g0 lo sz p size:Int)(h0:0≤lo∧lo≤1000)(h1:0≤sz∧sz≤1000)(h2:0≤size∧size≤1000):
  Ev (fun k=>Iu.f k h fx bx g0 lo sz p size) (h,fx,vO lo (eC lo sz p size) bx (mT fx [] [] bx)):=by
 unfold Iu.f;refine Ev.bind (Ev.ret _) ?_;have hn:=aec lo sz p size;have hF:=azh h fx hf bx hl hm lo (eC lo sz p size) (by omega);by_cases c:sz>size
 ·refine Ev.pos c (Ev.pos (by simp) ?_);rw[wid (lo+size) (by omega) (by omega),wid (sz-size) (by omega) (by omega)];(have e:eC lo sz p size= [⟨lo,size,p,false⟩]++ [⟨lo+size,sz-size,0,false⟩]:=by unfold eC;rw[if_pos c];rfl);rw[e]at hF⊢;exact Ev.bind hF (Ev.ret _)
 ·refine Ev.neg c ?_;(have e:eC lo sz p size= [⟨lo,size,p,false⟩]:=by unfold eC;rw[if_neg c]);rw[e]at hF⊢;exact Ev.bind hF (Ev.ret _)
theorem akF(cs:List aT)(hs:Small cs): ∀(rest:List aT) (i:Nat) (acc:List aT),cs.drop i=rest→i≤cs.length→acc.length=i→Ev (fun k=>m3.l0 k acc cs (cs.length:Int) (i:Int)) (acc++rest)
 | [],i,acc,hd,hi,ha=>by
  have he:=l9 hd hi;have hl:=hs.1;refine Ev.succ ?_;simp only[m3.l0];exact Ev.neg (by omega) ((Ev.ret _).to (by simp))
 |c::rest,i,acc,hd,hi,ha=>by
  obtain⟨h1,h2,h3⟩:=mb jW hd;have er:av cs (i:Int)=c:=h2;(have hc:c ∈ cs:=by rw[←h2,qe _ h1];exact List.getElem_mem _);have hcs:=hs.2 c hc;have hl:=hs.1;refine Ev.succ ?_;simp only[m3.l0,er];rw[jw i (by omega)];refine Ev.pos (by omega) (Ev.pos (by omega) (Ev.pos (by omega) (Ev.bind (aa3 c.f0 c.f1 c.f2 (by omega) (by omega)) (Ev.pos (by omega) ?_))));refine(akF cs hs rest (i+1) (acc++ [c]) h3 (by omega) (by simp[ha])).to ?_;simp
theorem akE(cs:List aT)(hs:Small cs):Ev (fun k=>m3.f k cs) cs:=by
 unfold m3.f;exact akF cs hs cs 0 [] rfl (by omega) rfl
theorem R4{A B:List aT}{c:aT}{r:Int}(h:r=A.length):av (A++c::B) r=c:=by
 subst h;show(A++c::B).getD A.length _=c;rw[List.getD_eq_getElem?_getD,List.getElem?_append_right (Nat.le_refl _),Nat.sub_self];rfl
theorem aqT{A B:List aT}{c d:aT}{r:Int}(h:r=A.length):(A++c::B).set r.toNat d=A++d::B:=by
 subst h;rw[Int.toNat_natCast,List.set_append_right _ _ (Nat.le_refl _),Nat.sub_self];rfl
theorem agl: ∀(a b:List aT),u7 (a++b)=u7 a+u7 b
 | [],b=>by simp[u7]
 |c::a,b=>by
  rw[List.cons_append,u7,u7,agl a b];omega
theorem aFq{α:Type}(a:List α)(c d:α)(b:List α):(a++c::b).set a.length d=a++d::b:=by
 rw[List.set_append_right _ _ (Nat.le_refl _),Nat.sub_self];rfl
theorem akD(cs:List aT)(hs:Small cs): ∀(rest:List aT) (i:Nat) (acc:List aT),cs.drop i=rest→i≤cs.length→acc.length=i→Ev (fun k=>oY.l0 k cs acc (i:Int)) (acc++rest)
 | [],i,acc,hd,hi,ha=>by
  have he:=l9 hd hi;have hl:=hs.1;refine Ev.succ ?_;simp only[oY.l0];exact Ev.neg (by omega) ((Ev.ret _).to (by simp))
 |c::rest,i,acc,hd,hi,ha=>by
  obtain⟨h1,h2,h3⟩:=mb jW hd;have er:av cs (i:Int)=c:=h2;(have hc:c ∈ cs:=by rw[←h2,qe _ h1];exact List.getElem_mem _);have hl:=hs.1;have hm:=hs.2 c hc;refine Ev.succ ?_;simp only[oY.l0,er];rw[jw i (by omega)];refine Ev.pos (by omega) (Ev.pos (by omega) (Ev.bind (Uz c.f0 c.f1 c.f2 (by omega) (by omega)) (Ev.pos (by omega) ?_)));refine(akD cs hs rest (i+1) (acc++ [c]) h3 (by omega) (by rw[List.length_append,List.length_singleton,ha])).to ?_;rw[List.append_assoc];rfl
theorem ax9(cs:List aT)(hs:Small cs):Ev (fun k=>oY.f k cs) cs:=akD cs hs cs 0 [] rfl (by omega) rfl
theorem ajz(cs:List aT)(hs:Small cs)(size:Int):Ev (fun k=>tO.f k cs size) (nC (lq size (k8 cs))):=by
 unfold tO.f;refine Ev.bind (ajI cs hs) ?_;have:=TM cs;exact Ev.bind (aEy _ (by omega) size) (Ev.ret _)
theorem awR(cs:List aT)(hs:Small cs)(size:Int):Ev (fun k=>BI.f k cs size) (nC (lq size (k8 cs))):=by
 unfold BI.f;refine Ev.bind (aae cs hs) ?_;have:=TM cs;obtain⟨r,h1,h2⟩:=ak5 (k8 cs) (by omega) size;exact Ev.bind h1 h2
def rY(cs:List aT)(p s:Int):List aT×Int×Int×Int×Bool:=
 match lq s (k8 cs)with
 |none=>(cs,0,0,0,false)
 |some g=>if(1≤p∧p≤999)∧(mC cs p).1<0 then(cs.set g.f0.toNat (tU g p s (av cs g.f0)),g.f0,g.f1,s,true)else(cs,0,0,0,false)
theorem ajA{cs:List aT}{g:br}(h:g ∈ k8 cs):lZ cs=true∧g ∈ ij 0 cs:=by
 unfold k8 at h;by_cases hb:lZ cs=true
 ·rw[if_pos hb]at h;exact⟨hb,h⟩
 ·rw[if_neg hb]at h;exact absurd h (by simp)
theorem ajV{cs:List aT}(hb:lZ cs=true){p:Int}(hp:1≤p):(mC cs p).1=oT cs p 0:=by
 (have eI: ∀l:List ai,jx l p=eO l p 0:=fun l=>by unfold jx;rw[if_pos (by omega)]);unfold mC;rw[if_pos hb];rcases WS cs p 0 (Int.le_refl _)with⟨h1,h2⟩|⟨l1,c,l2,h1,h2,h3,h4⟩
 ·rw[Ob cs p 0 (fun c hc=>by rw[eI];exact h2 c hc),h1]
 ·rw[h4,h1,UO l1 c l2 p 0 (fun x hx=>by rw[eI];exact h3 x hx) (by rw[eI];exact h2)]
theorem aeS{cs:List aT}(hs:Small cs){p s:Int}{g:br}(hl:lq s (k8 cs)=some g)(hp:1≤p):
  ∃C1 c C2,cs=C1++c::C2∧g.f0=C1.length∧(0≤g.f1∧g.f1+g.f2≤24∧s≤g.f2∧1≤s)∧c.f1.length≤1048576∧c.f2.length≤24∧(∀b ∈ c.f2,1≤b.f1∧b.f1≤24)∧(tU g p s c).f2.length≤c.f2.length+2∧oK g.f1 g.f2 (eC g.f1 g.f2 p s) c.f2=(tU g p s c).f2:=by
 obtain⟨hm,hle,hs1,_⟩:=W5 hl;obtain⟨hb,hm⟩:=ajA hm;have v:=(CG cs).mp hb;have Pv:=v.geo hs;have hfl:=Pv.flat;obtain⟨C1,c,C2,P,Q,A,R,B,h,e1,e2,e3,e4,e5,e6,e7,e8,e9,e10,e11,UB,e13⟩:=ajM Pv hm (p:=p) (s:=s) (by omega) hs1 hle;(have hc:c ∈ cs:=by rw[e1];simp);refine⟨C1,c,C2,e1,e2,⟨e7.1,e7.2,hle,hs1⟩,Pv.fix c hc,hfl.box c hc,hfl.sz c hc,?_,by rw[e13,UB]⟩;have Hz:=aec g.f1 g.f2 p s;have ea:=congrArg List.length e8.all;rw[UB];simp only[List.length_append]at ea⊢;omega
theorem aE6{cs:List aT}(hs:Small cs)(p s:Int):Small (rY cs p s).1∧u7 (rY cs p s).1≤u7 cs+2:=by
 unfold rY;have hwn:=arV cs;cases hl:lq s (k8 cs)with
 |none=>exact⟨hs,by dsimp only;omega⟩
 |some g=>
  dsimp only;by_cases c0:(1≤p∧p≤999)∧(mC cs p).1<0
  ·rw[if_pos c0];obtain⟨C1,c,C2,h1,h2,_,h4,h5,_,h7,_⟩:=aeS hs hl c0.1.1;(have er:av cs g.f0=c:=by rw[h1];exact R4 h2);(have es:cs.set g.f0.toNat (tU g p s c)=C1++tU g p s c::C2:=by rw[h1];exact aqT h2);dsimp only;rw[er];refine⟨⟨by rw[List.length_set];exact hs.1,fun x hx=>?_⟩,?_⟩
   ·rcases List.mem_or_eq_of_mem_set hx with hx|hx
    ·exact hs.2 x hx
    ·subst hx;exact⟨h4,by omega⟩
   ·rw[es,h1,agl,agl,u7,u7];have:(tU g p s c).f1=c.f1:=rfl;rw[this];omega
  ·rw[if_neg c0];exact⟨hs,by dsimp only;omega⟩
theorem aE0(cs:List aT)(hs:Small cs)(p s:Int):Ev (fun k=>mh.f k cs p s) (rY cs p s):=by
 unfold mh.f rY;refine Ev.bind (ax9 cs hs) (Ev.bind (awR cs hs s) (Ev.bind (aw3 cs hs p) ?_));cases hl:lq s (k8 cs)with
 |none=>exact Ev.neg (by simp[nC]) (Ev.ret _)
 |some g=>
  have x0:(nC (some g)).1=g.f0:=rfl;have x1:(nC (some g)).2.1=g.f1:=rfl;have x2:(nC (some g)).2.2.1=g.f2:=rfl;refine Ev.pos (by simp[nC]) ?_;rw[x0,x1,x2];refine Ev.bind (Ev.const (Iv p 1 999)) ?_;dsimp only;by_cases c1:1≤p∧p≤999
  ·refine Ev.pos (decide_eq_true c1) ?_;by_cases c2:(mC cs p).1≥0
   ·refine Ev.pos c2 ((Ev.ret _).to ?_);rw[if_neg (fun e=>by have:=e.2;omega)]
   ·rw[if_pos ⟨c1,by omega⟩];obtain⟨C1,c,C2,h1,h2,h3,h4,h5,h6,h7,h8⟩:=aeS hs hl c1.1;(have er:av cs g.f0=c:=by rw[h1];exact R4 h2);have lc:=congrArg List.length h1;simp at lc;rw[er];refine Ev.neg c2 (Ev.pos (by omega) (Ev.pos (by omega) ?_));refine Ev.bind (ak2 c.f0 c.f1 h4 c.f2 h5 g.f0 g.f1 g.f2 p s (by omega) (by omega) (by omega) (by omega) (by omega) (by omega)) (Ev.pos (by omega) ((Ev.ret _).to ?_));dsimp only;rw[h8];rfl
  ·refine Ev.neg (by simpa using c1) ((Ev.ret _).to ?_);rw[if_neg (fun e=>c1 e.1)]
theorem aE1(cs:List aT)(hs:Small cs)(p s:Int):Ev (fun k=>kR.f k cs p s) (rY cs p s):=by
 unfold kR.f rY;refine Ev.bind (akE cs hs) (Ev.bind (ajz cs hs s) ?_);by_cases hb:lZ cs=true
 ·refine Ev.bind (Ev.const (show iE.f cs=some true from congrArg some hb)) (Ev.pos rfl (Ev.bind (Ev.const (xN _ _ _)) ?_));by_cases c1:1≤p∧p≤999
  ·have ei:=ajV hb c1.1;refine Ev.pos (decide_eq_true c1) (Ev.bind (Ev.const (show tP.f cs p=some (oT cs p 0) from rfl)) ?_);by_cases c2:oT cs p 0≥0
   ·refine Ev.pos c2 ((Ev.ret _).to ?_);cases hl:lq s (k8 cs)with
    |none=>rfl
    |some g=>dsimp only;rw[if_neg (fun e=>by have:=e.2;omega)]
   ·refine Ev.neg c2 ?_;cases hl:lq s (k8 cs)with
    |none=>exact Ev.neg (by simp[nC]) (Ev.ret _)
    |some g=>
     have x0:(nC (some g)).1=g.f0:=rfl;have x1:(nC (some g)).2.1=g.f1:=rfl;have x2:(nC (some g)).2.2.1=g.f2:=rfl;dsimp only;rw[if_pos ⟨c1,by omega⟩];obtain⟨C1,c,C2,h1,h2,h3,h4,h5,h6,h7,h8⟩:=aeS hs hl c1.1;(have er:av cs g.f0=c:=by rw[h1];exact R4 h2);have lc:=congrArg List.length h1;simp at lc;rw[x0,x1,x2,er];refine Ev.pos (by simp[nC]) (Ev.pos (by omega) (Ev.pos (by omega) ?_));refine Ev.bind (aEX c.f0 c.f1 h4 c.f2 h5 h6 g.f0 g.f1 g.f2 p s (by omega) (by omega) (by omega)) ((Ev.ret _).to ?_);rfl
  ·refine Ev.neg (by simpa using c1) ((Ev.ret _).to ?_);cases hl:lq s (k8 cs)with
   |none=>rfl
   |some g=>dsimp only;rw[if_neg (fun e=>c1 e.1)]
 ·refine Ev.bind (Ev.const (show iE.f cs=some false from congrArg some (by simpa using hb))) (Ev.neg (by simp) ((Ev.ret _).to ?_));(have:k8 cs= []:=by unfold k8;rw[if_neg hb]);rw[this];(have e:lq s ([]:List br)=none:=by simp[lq,rV]);rw[e]
def oH:List Int→Int→List ai
 | [],_=> []
 |f::fs,low=>⟨low,wrap64 (f-low),0,false⟩::oH fs f
def DI(h:Int)(fx:List Int):Int×List Int×List ai×Bool:=
 if hO h fx (oH (fx++ [h]) 0)=true then(h,fx,oH (fx++ [h]) 0,true)else(0,[],[],false)
def vT:List Int→Int→Bool
 | [],_=>true
 |f::fs,low=>decide (low<f)&&(decide (f≤24)&& vT fs f)
theorem arv: ∀(l:List Int) (low hi:Int),(∀f ∈ l,-9223372036854775808≤f∧f≤9223372036854775807)→0≤low→low≤24→hi≤24→jl low (oH l low) hi→vT l low=true
 | [],_,_,_,_,_,_,_=>rfl
 |f::l,low,hi,hr,h0,h1,h2,ht=>by
  simp only[oH,jl]at ht;obtain⟨_,h3,h4⟩:=ht;have hs:=uc _ _ _ h4;have hf:=hr f (by simp);have e2:low+wrap64 (f-low)=f∧low<f∧f≤24:=by
   (have hlen:(0:Int)≤(oH l f).length:=by omega);(have:low+wrap64 (f-low)≤24:=by omega);unfold wrap64 at h3 this⊢;omega
  rw[e2.1]at h4;have ih:=arv l f hi (fun g hg=>hr g (by simp[hg])) (by omega) (by omega) h2 h4;simp only[vT,Bool.and_eq_true,decide_eq_true_eq];exact⟨e2.2.1,e2.2.2,ih⟩
theorem azp{l:List Int}{s d:Int}{i:Nat}(hi:i<l.length):(l++ [s]).getD i d=l.getD i d:=by
 rw[List.getD_eq_getElem?_getD,List.getD_eq_getElem?_getD,List.getElem?_append_left hi]
theorem azo{l:List Int}{s d:Int}{i:Nat}(hi:i=l.length):(l++ [s]).getD i d=s:=by
 subst hi;rw[List.getD_eq_getElem?_getD,List.getElem?_append_right (Nat.le_refl _),Nat.sub_self];rfl
theorem aqk(h:Int)(fx:List Int)(hf:fx.length≤1048576): ∀(rest:List Int) (i:Nat) (low:Int) (acc:List ai),(fx++ [h]).drop i=rest→i≤fx.length+1→acc.length=i→
  Ev (fun k=>nE.l0 k h fx low (i:Int) h fx acc) (if vT rest low=true∧hO h fx (acc++oH rest low)=true then(h,fx,acc++oH rest low,true)else(0,[],[],false))
 | [],i,low,acc,hd,hi,ha=>by
  have he:=l9 hd (by simp;omega);simp at he;refine Ev.succ ?_;simp only[nE.l0,oH,vT,List.append_nil];refine Ev.neg (by omega) ?_;refine Ev.bind (KR h fx (by omega) acc (by omega)) ?_;refine Ev.to (Ev.ite (fun _=>Ev.ret _) (fun _=>Ev.ret _)) ?_;by_cases c:hO h fx acc=true
  ·rw[if_pos c,if_pos ⟨by trivial,c⟩]
  ·rw[if_neg c,if_neg (fun e=>c e.2)]
 |f::rest,i,low,acc,hd,hi,ha=>by
  obtain⟨h1,h2,h3⟩:=mb 0 hd;simp at h1;have ih:=aqk h fx hf rest (i+1) f (acc++ [⟨low,wrap64 (f-low),0,false⟩]) h3 (by omega) (by simp[ha]);rw[List.append_assoc]at ih;refine Ev.succ ?_;simp only[nE.l0];refine Ev.pos (by omega) ?_;have step: ∀{F:Nat→Option (Int×List Int×List ai×Bool)},Ev F (if vT rest f=true∧hO h fx (acc++oH (f::rest) low)=true then(h,fx,acc++oH (f::rest) low,true)else(0,[],[],false))→
    Ev (fun k=>if f≤low then some (0,[],[],false)else if f>24 then some (0,[],[],false)else if acc.length<4398046511104 then F k else none) (if vT (f::rest) low=true∧hO h fx (acc++oH (f::rest) low)=true then(h,fx,acc++oH (f::rest) low,true)else(0,[],[],false)):=by
   intro F hF;by_cases c1:f≤low
   ·refine Ev.pos c1 ((Ev.ret _).to ?_);rw[if_neg (fun e=>by have:=e.1;simp only[vT,Bool.and_eq_true,decide_eq_true_eq]at this;omega)]
   ·refine Ev.neg c1 ?_;by_cases c2:f>24
    ·refine Ev.pos c2 ((Ev.ret _).to ?_);rw[if_neg (fun e=>by have:=e.1;simp only[vT,Bool.and_eq_true,decide_eq_true_eq]at this;omega)]
    ·refine Ev.neg c2 (Ev.pos (by omega) (hF.to ?_));have e:vT (f::rest) low=vT rest f:=by
      simp only[vT];rw[decide_eq_true (show low<f by omega),decide_eq_true (show f≤24 by omega),Bool.true_and,Bool.true_and]
     rw[e]
  have ih2:Ev (fun k=>nE.l0 k h fx f ((i+1:Nat):Int) h fx (acc++ [⟨low,wrap64 (f-low),0,false⟩])) (if vT rest f=true∧hO h fx (acc++oH (f::rest) low)=true then(h,fx,acc++oH (f::rest) low,true)else(0,[],[],false)):=ih;by_cases c:i<fx.length
  ·(have er:rd fx (i:Int)=f:=by rw[←h2,azp c];rfl);refine Ev.pos (by omega) (Ev.pos (by omega) ?_);rw[er,jw i (by omega)];exact step ih2
  ·(have er:h=f:=by rw[←h2,azo (by omega)]);refine Ev.neg (by omega) ?_;rw[jw i (by omega)];subst er;exact step ih2
theorem aqj(h:Int)(fx:List Int)(hf:fx.length≤1048576)(hh: -9223372036854775808≤h∧h≤9223372036854775807)(hr: ∀f ∈ fx,-9223372036854775808≤f∧f≤9223372036854775807):Ev (fun k=>nE.f k h fx) (DI h fx):=by
 unfold nE.f;refine Ev.bind (Ev.ret _) (Ev.pos (by simp;omega) ?_);rw[List.nil_append];refine(aqk h fx hf (fx++ [h]) 0 0 [] rfl (by omega) rfl).to ?_;unfold DI;rw[List.nil_append];by_cases c:hO h fx (oH (fx++ [h]) 0)=true
 ·have v:=(nO _ _ _).mp c;rw[if_pos c,if_pos ⟨arv _ 0 h (fun f hf=>by
   rcases List.mem_append.mp hf with hf|hf
   ·exact hr f hf
   ·rw[List.mem_singleton.mp hf];exact hh) (by omega) (by omega) v.hi.2 v.nc,c⟩]
 ·rw[if_neg c,if_neg (fun e=>c e.2)]
theorem awL(n:Int):Go.bits .and .i64 n 255=n%256:=by
 (have azC:(BitVec.ofInt 64 255).toNat=2 ^ 8-1:=by decide);have key:(BitVec.ofInt 64 n &&& BitVec.ofInt 64 255).toNat=(n%((2 ^ 64:Nat):Int)).toNat%2 ^ 8:=by
  rw[BitVec.toNat_and,BitVec.toNat_ofInt,azC,Nat.and_two_pow_sub_one_eq_mod]
 show IntKind.i64.wrap ((BitVec.ofInt 64 n &&& BitVec.ofInt 64 255).toNat:Nat)=n%256;rw[key,IntKind.wrap_i64];omega
theorem Nw(l:List Int)(hl:l.length≤140737488351232)(i h:Int)(hi:0≤i): ∃v i' h',qp.f l i h=some (v,i',h')∧0≤v∧v≤255∧0≤i':=by
 unfold qp.f;simp only[awL];by_cases h1:i<(l.length:Int)
 ·rw[if_pos h1,if_pos hi];(have e:wrap64 (i+1)=i+1:=by unfold wrap64;omega);rw[e];exact⟨_,_,_,rfl,by omega,by omega,by omega⟩
 ·rw[if_neg h1];exact⟨_,_,_,rfl,by omega,by omega,by omega⟩
theorem XR(x n:Int)(hx:0≤x)(hn:0<n):0≤Int.tmod x n∧Int.tmod x n<n:=
 ⟨Int.tmod_nonneg n hx,Int.tmod_lt_of_pos x hn⟩
theorem tw(l:List Int)(hl:l.length≤140737488351232)(i h n:Int)(hi:0≤i): ∃v i' h',eS.f l i h n=some (v,i',h')∧0≤v∧(n≤0→v=0)∧(0<n→v<n)∧0≤i':=by
 unfold eS.f;by_cases h0:n≤0
 ·rw[if_pos h0];exact⟨_,_,_,rfl,by omega,fun _=>rfl,fun _=>by omega,hi⟩
 ·rw[if_neg h0];(have hne: ¬n=0:=by omega);by_cases h1:n≤256
  ·rw[if_pos h1];obtain⟨v,i1,x1,e1,a1,b1,c1⟩:=Nw l hl i h hi;rw[e1];simp only[Option.bind_some];rw[if_neg hne];exact⟨_,_,_,rfl,(XR v n a1 (by omega)).1,fun _=>by omega,fun _=>(XR v n a1 (by omega)).2,c1⟩
  ·rw[if_neg h1];obtain⟨v1,i1,x1,e1,a1,b1,c1⟩:=Nw l hl i h hi;rw[e1];simp only[Option.bind_some];obtain⟨v2,i2,x2,e2,a2,b2,c2⟩:=Nw l hl i1 x1 c1;rw[e2];simp only[Option.bind_some];obtain⟨v3,i3,x3,e3,a3,b3,c3⟩:=Nw l hl i2 x2 c2;rw[e3];simp only[Option.bind_some];obtain⟨v4,i4,x4,e4,a4,b4,c4⟩:=Nw l hl i3 x3 c3;rw[e4];simp only[Option.bind_some];rw[if_neg hne];have w:wrap64 ((wrap64 ((wrap64 ((wrap64 (v1*16777216))+(wrap64 (v2*65536))))+(wrap64 (v3*256))))+v4)=v1*16777216+v2*65536+v3*256+v4:=by
    unfold wrap64;omega
   rw[w];exact⟨_,_,_,rfl,(XR _ n (by omega) (by omega)).1,fun _=>by omega,fun _=>(XR _ n (by omega) (by omega)).2,c4⟩
theorem aqq(l:List Int)(hl:l.length≤140737488351232)(i h n:Int)(hi:0≤i): ∃(b:Bool) (i' h':Int),BJ.f l i h n=some (b,i',h')∧0≤i':=by
 obtain⟨v,i1,x1,e1,_,_,_,c1⟩:=tw l hl i h n hi;unfold BJ.f;rw[e1];exact⟨_,_,_,rfl,c1⟩
theorem Xg(l:List Int)(hl:l.length≤140737488351232)(i h:Int)(xs:List Int)(hx:0<xs.length)(hi:0≤i): ∃v i' h',pK.f l i h xs=some (v,i',h')∧v ∈ xs∧0≤i':=by
 obtain⟨v,i1,x1,e1,a1,_,b1,c1⟩:=tw l hl i h (xs.length:Int) hi;unfold pK.f;rw[e1];simp only[Option.bind_some];have b2:=b1 (by omega);rw[if_pos a1,if_pos b2];refine⟨_,_,_,rfl,?_,c1⟩;unfold rd;rw[qe _ (show v.toNat<xs.length by omega)];exact List.getElem_mem _
theorem aql{h:Int}(hh:1≤h∧h≤24):DI h []=(h,[],[⟨0,h,0,false⟩],true):=by
 have e:oH ([]++ [h]) 0= [⟨0,h,0,false⟩]:=by
  show[(ai.mk 0 (wrap64 (h-0)) 0 false)]=_;rw[wid (h-0) (by omega) (by omega)];simp
 unfold DI;rw[e,if_pos];rw[nO];exact⟨hh,⟨rfl,hh.1,by show 0+h=h;omega⟩,by simp[mF],rfl,by simp⟩
theorem aEG{h x:Int}(hh:1≤h∧h≤24)(hx:1≤x∧x≤h-1):DI h [x]=(h,[x],[⟨0,x,0,false⟩,⟨x,h-x,0,false⟩],true):=by
 have e:oH ([x]++ [h]) 0= [⟨0,x,0,false⟩,⟨x,h-x,0,false⟩]:=by
  show[(ai.mk 0 (wrap64 (x-0)) 0 false),(ai.mk x (wrap64 (h-x)) 0 false)]=_;rw[wid (x-0) (by omega) (by omega),wid (h-x) (by omega) (by omega)];simp
 unfold DI;rw[e,if_pos];rw[nO];refine⟨hh,⟨rfl,by show 1≤x;omega,by show x=0+x;omega,by show 1≤h-x;omega,by show 0+x+(h-x)=h;omega⟩,by simp[mF],?_,?_⟩
 ·simp[ny,hx]
 ·intro f hf;rw[List.mem_singleton.mp hf];exact⟨⟨x,h-x,0,false⟩,by simp,rfl⟩
theorem Uy(l:List Int)(hl:l.length≤140737488351232)(first height:Int)(O3:0≤first∧first≤1000): ∀(n:Nat) (i y h:Int) (fx:List Int) (bx:List ai),n≤100→0≤i→fx.length≤1→jI h fx bx→vE first bx→
  ∃mQ i' y',Ev (fun k=>eB.l0 k first height (n:Int) l i y h fx bx) (h,fx,mQ,i',y')∧jI h fx mQ∧vE first mQ∧0≤i'
 |0,i,y,h,fx,bx,_,hi,hf,v,hp=>by
  refine⟨bx,i,y,Ev.succ ?_,v,hp,hi⟩;simp only[eB.l0];exact Ev.neg (by omega) (Ev.ret _)
 |n+1,i,y,h,fx,bx,hn,hi,hf,v,hp=>by
  have hlen:=v.len;obtain⟨a,i1,y1,e1,a0,_,a1,c1⟩:=tw l hl i y 6 hi;have a1:=a1 (by omega);obtain⟨o,i2,y2,e2,o0,_,o1,c2⟩:=tw l hl i1 y1 6 c1;(have ew:wrap64 (first+a)=first+a:=wid _ (by omega) (by omega));(have en:wrap64 (((n+1:Nat):Int)-1)=(n:Int):=by unfold wrap64;omega);have go: ∀s:Bool,∃mQ i' y',Ev (fun k=>eB.j2 k first height ((n+1:Nat):Int) (first+a) o s l i2 y2 h fx bx) (h,fx,mQ,i',y')∧jI h fx mQ∧vE first mQ∧0≤i':=by
   intro s;cases s with
   |true=>
    (obtain⟨mQ,i',y',h1,h2,h3,h4⟩:=Uy l hl first height O3 n i2 y2 h fx _ (by omega) c2 hf (aF5 v (first+a)) (aF4 hp (first+a)));refine⟨mQ,i',y',Ev.succ ?_,h2,h3,h4⟩;simp only[eB.j2];rw[en];exact Ev.pos (by trivial) (Ev.bind (aF6 h fx bx (by omega) (by omega) _) h1)
   |false=>
    by_cases c:o=2
    ·obtain⟨u,i3,y3,e3,_,_,_,c3⟩:=tw l hl i2 y2 height c2;obtain⟨j,i4,y4,e4,c4⟩:=aqq l hl i3 y3 3 c3;(obtain⟨mQ,i',y',h1,h2,h3,h4⟩:=Uy l hl first height O3 n i4 y4 h fx _ (by omega) c4 hf (aEo v u j) (aEn hp u j));refine⟨mQ,i',y',Ev.succ ?_,h2,h3,h4⟩;simp only[eB.j2];rw[en];exact Ev.neg (by simp) (Ev.pos c (Ev.bind (Ev.const e3) (Ev.bind (Ev.const e4) (Ev.bind (aEp h fx bx (by omega) (by omega) u j) h1))))
    ·obtain⟨z,i3,y3,e3,z0,_,z1,c3⟩:=tw l hl i2 y2 4 c2;have z1:=z1 (by omega);have ez:wrap64 (1+z)=1+z:=wid _ (by omega) (by omega);(obtain⟨mQ,i',y',h1,h2,h3,h4⟩:=Uy l hl first height O3 n i3 y3 h fx _ (by omega) c3 hf (aE3 v (first+a) (1+z)) (aE2 (h:=h) (fx:=fx) hp (first+a) (1+z) (by omega)));refine⟨mQ,i',y',Ev.succ ?_,h2,h3,h4⟩;simp only[eB.j2];rw[en];refine Ev.neg (by simp) (Ev.neg c (Ev.bind (Ev.const e3) ?_));dsimp only;rw[ez];exact Ev.bind (aE4 (by omega) (by omega) _ _) h1
  obtain⟨mQ,i',y',h1,h2,h3,h4⟩:=go (if o=0 then(o==0)else(o==1));refine⟨mQ,i',y',Ev.succ ?_,h2,h3,h4⟩;simp only[eB.l0];refine Ev.pos (by omega) (Ev.bind (Ev.const e1) (Ev.bind (Ev.const e2) ?_));dsimp only;rw[ew];by_cases c:o=0
  ·rw[if_pos c]at h1;exact Ev.pos c h1
  ·rw[if_neg c]at h1;exact Ev.neg c h1
theorem akA(l:List Int)(hl:l.length≤140737488351232)(i y first:Int)(O3:0≤first∧first≤1000)(hi:0≤i):
  ∃h fx bx i' y',Ev (fun k=>eB.f k l i y first) (h,fx,bx,i',y')∧jI h fx bx∧vE first bx∧fx.length≤1∧0≤i':=by
 obtain⟨a,i1,y1,e1,a0,_,a1,c1⟩:=tw l hl i y 9 hi;have a1:=a1 (by omega);obtain⟨b,i2,y2,e2,c2⟩:=aqq l hl i1 y1 2 c1;have ew:wrap64 (4+a)=4+a:=wid _ (by omega) (by omega);have fin: ∀(i3 y3:Int) (fx:List Int) (bx:List ai),0≤i3→fx.length≤1→(∀x ∈ fx,1≤x∧x≤4+a-1)→DI (4+a) fx=(4+a,fx,bx,true)→ ∃mQ i' y',Ev (fun k=>eB.j0 k first (4+a) fx l i3 y3) (4+a,fx,mQ,i',y')∧jI (4+a) fx mQ∧vE first mQ∧0≤i':=by
  intro i3 y3 fx bx hi3 yP hr hnew;obtain⟨n,i4,y4,e4,n0,_,n1,c4⟩:=tw l hl i3 y3 7 hi3;have n1:=n1 (by omega);have hv:jI (4+a) fx bx:=by
   have h0:=hnew;unfold DI at h0;split at h0
   ·next hc=>
    have h0:=congrArg (fun z:Int×List Int×List ai×Bool=>z.2.2.1) h0;dsimp only at h0;rw[h0]at hc;exact(nO _ _ _).mp hc
   ·simp at h0
  have hb0: ∀x ∈ bx,x.f2=0:=by
   have h0:=hnew;unfold DI at h0;split at h0
   ·have h0:=congrArg (fun z:Int×List Int×List ai×Bool=>z.2.2.1) h0;dsimp only at h0;rw[←h0];have bz: ∀(ws:List Int) (low:Int),∀x ∈ oH ws low,x.f2=0:=by
     intro ws;induction ws with
     |nil=>intro low x hx;simp[oH]at hx
     |cons w ws ih=>
      intro low x hx;rw[oH]at hx;rcases List.mem_cons.mp hx with rfl|hx
      ·rfl
      ·exact ih w x hx
    exact bz _ _
   ·simp at h0
  (obtain⟨mQ,i',y',h1,h2,h3,h4⟩:=Uy l hl first (4+a) O3 n.toNat i4 y4 (4+a) fx bx (by omega) c4 yP hv (fun x hx=>Or.inl (hb0 x hx)));rw[show((n.toNat:Nat):Int)=n by omega]at h1;refine⟨mQ,i',y',Ev.succ ?_,h2,h3,h4⟩;simp only[eB.j0];have hN:=aqj (4+a) fx (by omega) (by omega) (fun x hx=>by have:=hr x hx;omega);rw[hnew]at hN;exact Ev.bind hN (Ev.bind (Ev.const e4) h1)
 cases b with
 |false=>
  obtain⟨mQ,i',y',h1,h2,h3,h4⟩:=fin i2 y2 [] _ c2 (by simp) (by simp) (aql (by omega));refine⟨4+a,[],mQ,i',y',?_,h2,h3,by simp,h4⟩;unfold eB.f;refine Ev.bind (Ev.const e1) (Ev.bind (Ev.ret _) (Ev.bind (Ev.const e2) (Ev.neg (by simp) ?_)));dsimp only;rw[ew];exact h1
 |true=>
  obtain⟨x,i3,y3,e3,x0,_,x1,c3⟩:=tw l hl i2 y2 (4+a-2) c2;have x1:=x1 (by omega);have ex:wrap64 (1+x)=1+x:=wid _ (by omega) (by omega);have e22:wrap64 (4+a-2)=4+a-2:=wid _ (by omega) (by omega);obtain⟨mQ,i',y',h1,h2,h3,h4⟩:=fin i3 y3 [1+x] _ c3 (by simp) (fun z hz=>by rw[List.mem_singleton.mp hz];omega) (aEG (by omega) (by omega));refine⟨4+a,[1+x],mQ,i',y',?_,h2,h3,by simp,h4⟩;unfold eB.f;refine Ev.bind (Ev.const e1) (Ev.bind (Ev.ret _) (Ev.bind (Ev.const e2) (Ev.pos (by trivial) ?_)));dsimp only;rw[ew,e22];refine Ev.bind (Ev.const e3) (Ev.pos (by simp) ?_);dsimp only;rw[ex];exact h1
theorem awN(l:List Int)(hl:l.length≤140737488351232)(i y:Int)(hi:0≤i):
  ∃h fx bx i' y',Ev (fun k=>jV.f k l i y) (h,fx,bx,i',y')∧fx.length≤2∧bx.length≤24∧0≤i'∧(∀x ∈ fx,-9223372036854775808≤x∧x≤9223372036854775807):=by
 obtain⟨h,fx,bx,i1,y1,e1,v,_,hf,c1⟩:=akA l hl i y 1 (by omega) hi;have hlen:=v.len;have hne:=v.ne;have hr: ∀x ∈ fx,-9223372036854775808≤x∧x≤9223372036854775807:=by
  intro x hx;obtain⟨b,hb,e⟩:=v.low x hx;have:=v.mem hb;omega
 obtain⟨k,i2,y2,e2,k0,_,k1,c2⟩:=tw l hl i1 y1 (bx.length:Int) c1;have k1:=k1 (by omega);obtain⟨o,i3,y3,e3,o0,_,o1,c3⟩:=tw l hl i2 y2 14 c2;have beg: ∀{G:Nat→(Int×List Int×List ai×Int×Int)→(Int×Int×Int)→(Int×Int×Int)→Option (Int×List Int×List ai×Int×Int)} {r},Ev (fun k'=>G k' (h,fx,bx,i1,y1) (k,i2,y2) (o,i3,y3)) r→
   Ev (fun k'=>(eB.f k' l i y 1).bind fun bt=>(eS.f l bt.2.2.2.1 bt.2.2.2.2 (bt.2.2.1.length:Int)).bind fun bt2=>(eS.f l bt2.2.1 bt2.2.2 14).bind fun bt3=>G k' bt bt2 bt3) r:=by
  intro G r hG;exact Ev.bind e1 (Ev.bind (Ev.const e2) (Ev.bind (Ev.const e3) hG))
 unfold jV.f;by_cases LC:o=0
 ·obtain⟨p,i4,y4,e4,_,c4⟩:=Xg l hl i3 y3 [0,24,25,wrap64 (h+1)] (by simp) c3;exact⟨_,_,_,_,_,Ev.bind e1 (Ev.bind (Ev.const e2) (Ev.bind (Ev.const e3) (Ev.pos LC (Ev.bind (Ev.const e4) (Ev.ret _))))),(show fx.length≤2 by omega),hlen,c4,hr⟩
 ·by_cases RQ:o=1
  ·obtain⟨p,i4,y4,e4,_,c4⟩:=Xg l hl i3 y3 [(-1),0,1,9223372036854775807] (by simp) c3;exact⟨_,_,_,_,_,Ev.bind e1 (Ev.bind (Ev.const e2) (Ev.bind (Ev.const e3) (Ev.neg LC (Ev.pos RQ (Ev.bind (Ev.const e4) (Ev.pos k0 (Ev.pos k1 (Ev.ret _)))))))),(show fx.length≤2 by omega),by rw[List.length_set];exact hlen,c4,hr⟩
  ·by_cases W7:o=2
   ·obtain⟨p,i4,y4,e4,_,c4⟩:=Xg l hl i3 y3 [(-1),1,999,1000] (by simp) c3;exact⟨_,_,_,_,_,Ev.bind e1 (Ev.bind (Ev.const e2) (Ev.bind (Ev.const e3) (Ev.neg LC (Ev.neg RQ (Ev.pos W7 (Ev.bind (Ev.const e4) (Ev.pos k0 (Ev.pos k1 (Ev.ret _))))))))),(show fx.length≤2 by omega),by rw[List.length_set];exact hlen,c4,hr⟩
   ·by_cases o_3:o=3
    ·obtain⟨p,i4,y4,e4,p0,_,p1,c4⟩:=tw l hl i3 y3 14 c3;have p1:=p1 (by omega);refine⟨_,_,_,_,_,Ev.bind e1 (Ev.bind (Ev.const e2) (Ev.bind (Ev.const e3) (Ev.neg LC (Ev.neg RQ (Ev.neg W7 (Ev.pos o_3 (Ev.bind (Ev.const e4) (Ev.pos ?_ (Ev.ret _))))))))),by simp;omega,hlen,c4,fun x hx=>?_⟩
     ·show fx.length<_;omega
     ·rcases List.mem_append.mp hx with hx|hx
      ·exact hr x hx
      ·rw[List.mem_singleton.mp hx];show-9223372036854775808≤p∧p≤_;omega
    ·by_cases o_4:o=4
     ·exact⟨_,_,_,_,_,Ev.bind e1 (Ev.bind (Ev.const e2) (Ev.bind (Ev.const e3) (Ev.neg LC (Ev.neg RQ (Ev.neg W7 (Ev.neg o_3 (Ev.pos o_4 (Ev.ret _)))))))),(show fx.length≤2 by omega),by simp,c3,hr⟩
     ·exact⟨_,_,_,_,_,Ev.bind e1 (Ev.bind (Ev.const e2) (Ev.bind (Ev.const e3) (Ev.neg LC (Ev.neg RQ (Ev.neg W7 (Ev.neg o_3 (Ev.neg o_4 (Ev.ret _)))))))),(show fx.length≤2 by omega),hlen,c3,hr⟩
theorem aqi(l:List Int)(hl:l.length≤140737488351232): ∀(d:Nat) (h i:Int),0≤i→(l.length:Int)-i≤d→ ∃h',Ev (fun k=>qR.l0 k l h i) (l,0,h')
 |0,h,i,h0,hd=>by
  refine⟨h,Ev.succ ?_⟩;simp only[qR.l0];exact Ev.neg (by omega) (Ev.ret _)
 |d+1,h,i,h0,hd=>by
  by_cases h1:i<(l.length:Int)
  ·by_cases h2:i<4000
   ·(have e:wrap64 (i+1)=i+1:=by unfold wrap64;omega);obtain⟨h',hh⟩:=aqi l hl d (Go.bits .and .i64 (wrap64 ((wrap64 ((wrap64 (h*131))+(wrap64 (rd l i))))+7)) 1073741823) (i+1) (by omega) (by omega);refine⟨h',Ev.succ ?_⟩;simp only[qR.l0,e];exact Ev.pos h1 (Ev.pos h2 (Ev.pos h0 hh))
   ·refine⟨h,Ev.succ ?_⟩;simp only[qR.l0];exact Ev.pos h1 (Ev.neg h2 (Ev.ret _))
  ·refine⟨h,Ev.succ ?_⟩;simp only[qR.l0];exact Ev.neg h1 (Ev.ret _)
theorem aEF(l:List Int)(hl:l.length≤140737488351232): ∃h',Ev (fun k=>qR.f k l) (l,0,h'):=
 aqi l hl l.length _ 0 (by omega) (by omega)
def F2(cs:List aT):Prop:= ∀(j:Nat) (c:aT),cs[j]? =some c→jI c.f0 c.f1 c.f2∧vE (1+6*(j:Int)) c.f2∧c.f1.length≤1
theorem F2.app{cs:List aT}(h:F2 cs){c:aT}(h1:jI c.f0 c.f1 c.f2)(h2:vE (1+6*(cs.length:Int)) c.f2)(h3:c.f1.length≤1):F2 (cs++ [c]):=by
 intro j d e;by_cases hj:j<cs.length
 ·rw[List.getElem?_append_left hj]at e;exact h j d e
 ·rw[List.getElem?_append_right (by omega)]at e;by_cases hz:j-cs.length=0
  ·rw[hz]at e;(have e2:c=d:=by simpa using e);subst e2;rw[show j=cs.length by omega];exact⟨h1,h2,h3⟩
  ·rw[List.getElem?_eq_none (by simp;omega)]at e;cases e
theorem F2.awQ{cs:List aT}(h:F2 cs)(hl:1≤cs.length∧cs.length≤3):xY cs∧Small cs:=by
 have hm: ∀c ∈ cs,∃j:Nat,cs[j]? =some c:=by
  intro c hc;obtain⟨j,hj,e⟩:=List.getElem_of_mem hc;exact⟨j,by rw[List.getElem?_eq_getElem hj,e]⟩
 refine⟨⟨by omega,fun c hc=>?_,?_⟩,by omega,fun c hc=>?_⟩
 ·obtain⟨j,e⟩:=hm c hc;exact(nO _ _ _).mpr (h j c e).1
 ·rw[List.pairwise_iff_getElem];intro i j hi hj hij a ha b hb h0 e;have p1:=(h i _ (List.getElem?_eq_getElem hi)).2.1 a ha;have p2:=(h j _ (List.getElem?_eq_getElem hj)).2.1 b hb;omega
 ·obtain⟨j,e⟩:=hm c hc;obtain⟨v,_,h3⟩:=h j c e;have:=v.len;omega
theorem ajL(l:List Int)(hl:l.length≤140737488351232): ∀(n:Nat) (cs:List aT) (i y:Int),cs.length+n≤3→0≤i→F2 cs→
  ∃out i' y',Ev (fun k=>nY.l0 k cs (n:Int) l i y) (out,i',y')∧F2 out∧out.length=cs.length+n∧0≤i'
 |0,cs,i,y,hn,hi,hd=>by
  refine⟨cs,i,y,Ev.succ ?_,hd,by omega,hi⟩;simp only[nY.l0];exact Ev.neg (by omega) (Ev.ret _)
 |n+1,cs,i,y,hn,hi,hd=>by
  obtain⟨h,fx,bx,i1,y1,e1,v,hp,hf,h1⟩:=akA l hl i y (1+6*(cs.length:Int)) (by omega) hi;obtain⟨out,i2,y2,e2,g1,g2,g3⟩:=ajL l hl n (cs++ [⟨h,fx,bx⟩]) i1 y1 (by rw[List.length_append,List.length_singleton];omega) h1 (hd.app (c:=⟨h,fx,bx⟩) v hp hf);refine⟨out,i2,y2,Ev.succ ?_,g1,by rw[g2,List.length_append,List.length_singleton];omega,g3⟩;simp only[nY.l0];rw[wid (6*(cs.length:Int)) (by omega) (by omega),wid (1+6*(cs.length:Int)) (by omega) (by omega),XZ (n+1) (by omega) (by omega),show n+1-1=n from rfl];refine Ev.pos (by omega) (Ev.bind e1 (Ev.pos (by omega) e2))
theorem aFp(l:List Int)(hl:l.length≤1048576):Ev (fun k=>qQ.f k l l) true:=Ev.mk l.length (fun k hk=>by
 unfold qQ.f;rw[if_pos rfl];have h:=ajr (L:=fun k i=>qQ.l0 k l l i) (n:=l.length) (P:=fun _=>true) (fun k i hi=>?_) (fun k=>?_) l.length k 0 (by omega) hk
 ·(have e:(List.range' 0 l.length).all (fun _=>true)=true:=by simp);rw[e]at h;exact h
 ·simp only[qQ.l0];rw[if_pos (by omega),if_pos (by omega),if_pos (by omega)];simp only[if_true];rw[jw i (by omega)]
 ·simp only[qQ.l0];rw[if_neg (by omega)])
theorem aFw{cs:List aT}(h:Small cs)(i:Nat){c:aT}(h1:c.f1.length≤1048576)(h2:c.f2.length≤1048576):Small (cs.set i c):=by
 refine⟨by rw[List.length_set];exact h.1,fun x hx=>?_⟩;rcases List.mem_or_eq_of_mem_set hx with hx|hx
 ·exact h.2 x hx
 ·subst hx;exact⟨h1,h2⟩
theorem aqW{cs:List aT}(h:Small cs){c:aT}(hl:cs.length<1048576)(h1:c.f1.length≤1048576)(h2:c.f2.length≤1048576):Small (cs++ [c]):=by
 refine⟨by rw[List.length_append,List.length_singleton];omega,fun x hx=>?_⟩;rcases List.mem_append.mp hx with hx|hx
 ·exact h.2 x hx
 ·rw[List.mem_singleton.mp hx];exact⟨h1,h2⟩
theorem aqV(l:List Int)(i y:Int): ∀(d:Nat) (cs:List aT),cs.length+d=7→Small cs→ ∃out,Ev (fun k=>qT.l0 k cs l i y) (out,i,y)∧Small out
 |0,cs,hd,hs=>by
  refine⟨cs,Ev.succ ?_,hs⟩;simp only[qT.l0];exact Ev.neg (by omega) (Ev.ret _)
 |d+1,cs,hd,hs=>by
  have hN:=aqj 3 [] (by simp) (by omega) (by simp);rw[aql (by omega)]at hN;obtain⟨out,e,h⟩:=aqV l i y d (cs++ [⟨3,[],[⟨0,3,0,false⟩]⟩]) (by rw[List.length_append,List.length_singleton];omega) (aqW hs (by omega) (by simp) (by simp));refine⟨out,Ev.succ ?_,h⟩;simp only[qT.l0];exact Ev.pos (by omega) (Ev.bind hN (Ev.pos (by omega) e))
theorem awM(l:List Int)(hl:l.length≤140737488351232)(i y:Int)(hi:0≤i): ∃cs i' y',Ev (fun k=>qT.f k l i y) (cs,i',y')∧Small cs∧0≤i':=by
 obtain⟨v,i1,y1,e1,a0,_,a1,c1⟩:=tw l hl i y 3 hi;have a1:=a1 (by omega);obtain⟨cs,i2,y2,e2,g1,g2,c2⟩:=ajL l hl (1+v.toNat) [] i1 y1 (by simp;omega) c1 (fun j c e=>by simp at e);(have g3:1≤cs.length∧cs.length≤3:=by rw[g2,List.length_nil];omega);obtain⟨_,hs⟩:=g1.awQ g3;have eb:Ev (fun k=>nY.f k l i y) (cs,i2,y2):=by
  unfold nY.f;refine Ev.bind (Ev.const e1) ?_;rw[wid (1+v) (by omega) (by omega),show 1+v=((1+v.toNat:Nat):Int) by omega];exact e2
 obtain⟨o,i3,y3,e3,_,_,_,c3⟩:=tw l hl i2 y2 14 c2;unfold qT.f;by_cases o0:o=0
 ·obtain⟨h,fx,bx,i4,y4,e4,h1,h2,c4,_⟩:=awN l hl i3 y3 c3;exact⟨_,_,_,Ev.bind eb (Ev.bind (Ev.const e3) (Ev.pos o0 (Ev.bind e4 (Ev.pos (by dsimp only;omega) (Ev.ret _))))),aFw hs _ (by show fx.length≤_;omega) (by show bx.length≤_;omega),c4⟩
 ·by_cases o1:o=1
  ·have hm:av cs 0 ∈ cs:=by
    show cs.getD 0 jW ∈ cs;rw[qe _ (show 0<cs.length by omega)];exact List.getElem_mem _
   have:=hs.2 _ hm;exact⟨_,_,_,Ev.bind eb (Ev.bind (Ev.const e3) (Ev.neg o0 (Ev.pos o1 (Ev.pos (by dsimp only;omega) (Ev.pos (by dsimp only;omega) (Ev.ret _)))))),aqW hs (by omega) this.1 this.2,c3⟩
  ·by_cases o2:o=2
   ·exact⟨_,_,_,Ev.bind eb (Ev.bind (Ev.const e3) (Ev.neg o0 (Ev.neg o1 (Ev.pos o2 (Ev.ret _))))),⟨by simp,by simp⟩,c3⟩
   ·by_cases o3:o=3
    ·obtain⟨out,e4,h4⟩:=aqV l i3 y3 (7-cs.length) cs (by omega) hs;exact⟨_,_,_,Ev.bind eb (Ev.bind (Ev.const e3) (Ev.neg o0 (Ev.neg o1 (Ev.neg o2 (Ev.pos o3 e4))))),h4,c3⟩
    ·exact⟨_,_,_,Ev.bind eb (Ev.bind (Ev.const e3) (Ev.neg o0 (Ev.neg o1 (Ev.neg o2 (Ev.neg o3 (Ev.ret _)))))),hs,c3⟩
end Go.Proofs.Ytbpjidekjogfeaa.A
