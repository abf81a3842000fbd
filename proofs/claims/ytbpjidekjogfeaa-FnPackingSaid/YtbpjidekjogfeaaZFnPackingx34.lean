/- Used by the law FnPacking. -/
import Derived.Test.YtbpjidekjogfeaaZFnPackingx33
namespace Go.Proofs.Ytbpjidekjogfeaa.A
open Go.RowKit Go.Proofs.YtbpjidekjogfeaaW.cK Go.Proofs.YtbpjidekjogfeaaW.dP Go.Proofs.YtbpjidekjogfeaaW.eE
set_option linter.unusedVariables false
set_option linter.unusedSimpArgs false
def zD(s:Int):List Int→Option Int
 | []=>none
 |r::l=>match zD s l with
  |none=>if s≤r then some r else none
  |some m=>if s≤r∧r≤m then some r else some m
theorem Lx(s:Int): ∀(l:List Int),(zD s l=none∧ ∀x ∈ l,x<s)∨ ∃m,zD s l=some m∧m ∈ l∧s≤m∧ ∀x ∈ l,s≤x→m≤x
 | []=>Or.inl ⟨rfl,by simp⟩
 |r::l=>by
  simp only[zD];rcases Lx s l with⟨h1,h2⟩|⟨m,h1,h2,h3,h4⟩
  ·rw[h1];dsimp only;by_cases c:s≤r
   ·rw[if_pos c];refine Or.inr ⟨r,rfl,by simp,c,fun x hx hs=>?_⟩;rcases List.mem_cons.mp hx with rfl|hx
    ·exact Int.le_refl _
    ·have:=h2 x hx;omega
   ·rw[if_neg c];refine Or.inl ⟨rfl,fun x hx=>?_⟩;rcases List.mem_cons.mp hx with rfl|hx
    ·omega
    ·exact h2 x hx
  ·rw[h1];dsimp only;by_cases c:s≤r∧r≤m
   ·rw[if_pos c];refine Or.inr ⟨r,rfl,by simp,c.1,fun x hx hs=>?_⟩;rcases List.mem_cons.mp hx with rfl|hx
    ·exact Int.le_refl _
    ·have:=h4 x hx hs;omega
   ·rw[if_neg c];refine Or.inr ⟨m,rfl,by simp[h2],h3,fun x hx hs=>?_⟩;rcases List.mem_cons.mp hx with rfl|hx
    ·omega
    ·exact h4 x hx hs
theorem ap8{s:Int}{l:List Int}{m:Int}(hm:m ∈ l)(h:s≤m)(hmin: ∀x ∈ l,s≤x→m≤x):zD s l=some m:=by
 rcases Lx s l with⟨_,h2⟩|⟨k,h1,h2,h3,h4⟩
 ·have:=h2 m hm;omega
 ·have:=h4 m hm h;have:=hmin k h2 h3;rw[h1,show k=m by omega]
theorem ap7{s:Int}{l:List Int}(h: ∀x ∈ l,x<s):zD s l=none:=by
 rcases Lx s l with⟨h1,_⟩|⟨k,h1,h2,h3,h4⟩
 ·exact h1
 ·have:=h k h2;omega
def su(s m:Int):List Int→List Int
 | []=> []
 |r::l=>if r=m then(r-s)::l else r::su s m l
theorem aqM{s m:Int}: ∀{l1 l2:List Int},(∀x ∈ l1,x≠m)→su s m (l1++m::l2)=l1++(m-s)::l2
 | [],l2,_=>by simp[su]
 |x::l1,l2,h=>by
  rw[List.cons_append,su,if_neg (h x (by simp)),aqM (fun y hy=>h y (by simp[hy]))];rfl
theorem aqO{m:Int}(s:Int): ∀{l:List Int},m ∈ l→ ∃l1 l2,l=l1++m::l2∧(∀x ∈ l1,x≠m)∧su s m l=l1++(m-s)::l2
 | [],h=>absurd h (by simp)
 |x::l,h=>by
  by_cases c:x=m
  ·subst c;exact⟨[],l,rfl,by simp,by simp[su]⟩
  ·obtain⟨l1,l2,h1,h2,h3⟩:=aqO s (l:=l) (by rcases List.mem_cons.mp h with h|h;exact absurd h.symm c;exact h);refine⟨x::l1,l2,by rw[h1];rfl,fun y hy=>?_,by rw[su,if_neg c,h3];rfl⟩;rcases List.mem_cons.mp hy with rfl|hy
   ·exact c
   ·exact h2 y hy
def vO:List Int→List Int→Nat
 | [],_=>0
 |s::ss,C0=>match zD s C0 with
  |none=>0
  |some m=>1+vO ss (su s m C0)
def ju(l:List Int):List Int:=l.filter (fun x=>decide (0<x))
theorem ae3{l:List Int}{x:Int}:x ∈ ju l↔x ∈ l∧0<x:=by
 unfold ju;rw[List.mem_filter,decide_eq_true_iff]
theorem aEn{s:Int}(hs:1≤s)(l:List Int):zD s (ju l)=zD s l:=by
 rcases Lx s l with⟨h1,h2⟩|⟨m,h1,h2,h3,h4⟩
 ·rw[h1];exact ap7 (fun x hx=>h2 x (ae3.mp hx).1)
 ·rw[h1];exact ap8 (ae3.mpr ⟨h2,by omega⟩) h3 (fun x hx hs=>h4 x (ae3.mp hx).1 hs)
theorem aqN{s m:Int}(hm:0<m): ∀(l:List Int),ju (su s m (ju l))=ju (su s m l)
 | []=>rfl
 |x::l=>by
  have ih:=aqN (s:=s) hm l;by_cases c:0<x
  ·(have e:ju (x::l)=x::ju l:=by unfold ju;rw[List.filter_cons_of_pos (by simpa using c)]);rw[e];simp only[su];by_cases d:x=m
   ·rw[if_pos d,if_pos d];(have pp:ju (ju l)=ju l:=by unfold ju;rw[List.filter_filter];simp);unfold ju at*;by_cases f:0<x-s
    ·rw[List.filter_cons_of_pos (by simpa using f),List.filter_cons_of_pos (by simpa using f),pp]
    ·rw[List.filter_cons_of_neg (by simpa using f),List.filter_cons_of_neg (by simpa using f),pp]
   ·rw[if_neg d,if_neg d];unfold ju at*;rw[List.filter_cons_of_pos (by simpa using c),List.filter_cons_of_pos (by simpa using c),ih]
  ·(have e:ju (x::l)=ju l:=by unfold ju;rw[List.filter_cons_of_neg (by simpa using c)]);rw[e,ih];simp only[su];rw[if_neg (by omega)];unfold ju;rw[List.filter_cons_of_neg (by simpa using c)]
theorem acO: ∀(ss C0:List Int),(∀s ∈ ss,1≤s)→vO ss (ju C0)=vO ss C0
 | [],_,_=>rfl
 |s::ss,C0,h=>by
  have hs:=h s (by simp);have sj: ∀x ∈ ss,1≤x:=fun x hx=>h x (by simp[hx]);simp only[vO];rw[aEn hs];rcases Lx s C0 with⟨h1,_⟩|⟨m,h1,h2,h3,h4⟩
  ·rw[h1]
  ·rw[h1];dsimp only;rw[←acO ss (su s m (ju C0)) sj,aqN (by omega),acO ss (su s m C0) sj]
def dH(gs:List aZ):List Int:=gs.map (fun g=>g.f2)
theorem aEj{size:Int}(hs:1≤size){l l1:List aZ}{g:aZ}{l2:List aZ}(h:sU size l l1 g l2):zD size (dH l)=some g.f2∧su size g.f2 (dH l)=dH l1++(g.f2-size)::dH l2:=by
 (have e:dH l=dH l1++g.f2::dH l2:=by rw[h.all];simp[dH]);have ha: ∀x ∈ dH l1,x<size∨g.f2<x:=by
  intro x hx;obtain⟨y,hy,rfl⟩:=List.mem_map.mp hx;exact h.ahead y hy
 have hb: ∀x ∈ dH l2,x<size∨g.f2≤x:=by
  intro x hx;obtain⟨y,hy,rfl⟩:=List.mem_map.mp hx;exact h.behind y hy
 have he:=h.enough;rw[e];refine⟨ap8 (by simp) he (fun x hx hs=>?_),aqM (fun x hx=>by have:=ha x hx;omega)⟩;rcases List.mem_append.mp hx with hx|hx
 ·have:=ha x hx;omega
 ·rcases List.mem_cons.mp hx with rfl|hx
  ·exact Int.le_refl _
  ·have:=hb x hx;omega
theorem aEk{size:Int}{l:List aZ}(h: ∀x ∈ l,x.f2<size):zD size (dH l)=none:=
 ap7 (fun x hx=>by obtain⟨y,hy,rfl⟩:=List.mem_map.mp hx;exact h y hy)
def ahF(a b:aZ):Prop:=a.f0<b.f0∨(a.f0=b.f0∧a.f1<b.f1)
theorem ajK: ∀(cs:List br) (k:Int),∀g ∈ dG k cs,k≤g.f0
 | [],_,g,hg=>by simp[dG]at hg
 |c::cs,k,g,hg=>by
  rw[dG]at hg;rcases List.mem_append.mp hg with hg|hg
  ·obtain⟨x,_,rfl⟩:=List.mem_map.mp hg;exact Int.le_refl _
  ·have:=ajK cs (k+1) g hg;omega
theorem ajI: ∀(cs:List br) (k:Int),(∀c ∈ cs,∃h,je 0 c.f2 h)→(dG k cs).Pairwise ahF
 | [],_,_=>List.Pairwise.nil
 |c::cs,k,h=>by
  obtain⟨hi,ht⟩:=h c (by simp);rw[dG,List.pairwise_append];refine⟨?_,ajI cs (k+1) (fun d hd=>h d (by simp[hd])),fun a ha b hb=>?_⟩
  ·rw[List.pairwise_map];have:=(Ow c.f1 c.f2 [] 0 hi ht (fun c=>absurd rfl c)).1;exact List.Pairwise.imp (fun hab=>Or.inr ⟨rfl,hab⟩) this
  ·obtain⟨x,_,rfl⟩:=List.mem_map.mp ha;have:=ajK cs (k+1) b hb;exact Or.inl (by show k<b.f0;omega)
theorem ajH: ∀(a b:List br) (k:Int),dG k (a++b)=dG k a++dG (k+a.length) b
 | [],b,k=>by simp[dG]
 |c::a,b,k=>by
  rw[List.cons_append,dG,dG,ajH a b (k+1),List.append_assoc,List.length_cons]
  congr 3
  omega
theorem Uy(fx:List Int): ∀(bs cur:List ai),∀g ∈ fV fx cur bs,g.f0=0
 | [],cur,g,hg=>by
  simp only[fV,fZ]at hg;split at hg
  ·simp at hg
  ·next h=>rw[List.mem_singleton.mp hg,Ci h]
 |b::bs,cur,g,hg=>by
  have em: ∀g ∈ fZ cur,g.f0=0:=by
   intro g hg;unfold fZ at hg;split at hg
   ·simp at hg
   ·next h=>rw[List.mem_singleton.mp hg,Ci h]
  simp only[fV]at hg;split at hg
  ·split at hg
   ·exact Uy fx bs _ g hg
   ·rcases List.mem_append.mp hg with hg|hg
    ·exact em g hg
    ·exact Uy fx bs _ g hg
  ·rcases List.mem_append.mp hg with hg|hg
   ·exact em g hg
   ·exact Uy fx bs _ g hg
theorem ajL: ∀(cs:List br) (k:Int) (g:aZ),g ∈ dG k cs→ ∃C1 c C2,cs=C1++c::C2∧g.f0=k+C1.length∧(aZ.mk 0 g.f1 g.f2)∈ iM c.f1 c.f2
 | [],_,g,hg=>by simp[dG]at hg
 |c::cs,k,g,hg=>by
  rw[dG]at hg;rcases List.mem_append.mp hg with hg|hg
  ·obtain⟨x,hx,rfl⟩:=List.mem_map.mp hg;refine⟨[],c,cs,rfl,by simp,?_⟩;have:=Uy c.f1 c.f2 [] x hx;(have e:(aZ.mk 0 x.f1 x.f2)=x:=by rw[←this]);rw[e];exact hx
  ·obtain⟨C1,d,C2,h1,h2,h3⟩:=ajL cs (k+1) g hg;exact⟨c::C1,d,C2,by rw[h1];rfl,by rw[h2,List.length_cons];omega,h3⟩
structure JI(cs:List br):Prop where
 len:cs.length≤6
 fix: ∀c ∈ cs,c.f1.length≤1048576
 l5: ∀c ∈ cs,∃h,h≤24∧je 0 c.f2 h
theorem JI.flat{cs:List br}(g:JI cs):Flat cs:=by
 refine⟨g.len,g.fix,fun c hc=>?_,fun c hc b hb=>?_⟩
 ·obtain⟨h,h1,h2⟩:=g.l5 c hc;have:=tR _ _ _ h2;omega
 ·obtain⟨h,h1,h2⟩:=g.l5 c hc;have:=C8 _ _ _ h2 b hb;omega
theorem JA.geo{cs:List br}(v:JA cs)(hs:Small cs):JI cs:=
 ⟨by have:=v.len;omega,fun c hc=>(hs.2 c hc).1,fun c hc=>⟨c.f0,((qd _ _ _).mp (v.col c hc)).hi.2,((qd _ _ _).mp (v.col c hc)).l5⟩⟩
def Ew(g:aZ)(p s:Int)(c:br):br:=⟨c.f0,c.f1,uA g.f1 (iq g.f1 g.f2 p s) c.f2 (lR c.f1 [] [] c.f2)⟩
def afA(g:aZ)(s:Int):List aZ:=if s<g.f2 then[⟨g.f0,g.f1+s,g.f2-s⟩]else[]
theorem aw6{cs:List br}(hg:JI cs){g:aZ}(hm:g ∈ dG 0 cs){p s:Int}(hp:p≠0)(hs:1≤s)(hle:s≤g.f2):
  ∃C1 c C2 P Q A R B h,cs=C1++c::C2∧g.f0=C1.length∧dG 0 cs=P++g::Q∧dG 0 (C1++Ew g p s c::C2)=P++afA g s++Q∧JI (C1++Ew g p s c::C2)∧g ∉ P∧
   (0≤g.f1∧g.f1+g.f2≤24)∧sY c.f1 c.f2 A R B∧g.f1=gu R∧g.f2=fl R∧je 0 c.f2 h∧(Ew g p s c).f2=A++iq g.f1 g.f2 p s++B∧(∀N,oF g.f1 g.f2 N c.f2=A++N++B):=by
 obtain⟨C1,c,C2,h1,h2,h3⟩:=ajL cs 0 g hm;(have hc:c ∈ cs:=by rw[h1];simp);obtain⟨h,hh,ht⟩:=hg.l5 c hc;obtain⟨A,R,B,hr,e,f1,f2⟩:=abX c.f1 c.f2 0 h ht _ h3;simp only[aZ.mk.injEq]at e;obtain⟨_,e1,e2⟩:=e;dsimp only at f1 f2;(have hN:je (gu R) (iq g.f1 g.f2 p s) (gu R+fl R):=by rw[←e1,←e2];exact aqg hs hle);have ayP:Cut c.f1 (iq g.f1 g.f2 p s):=by
  unfold iq;refine Or.inl ?_;unfold kZ;dsimp only;rw[decide_eq_false hp];rfl
 have eGN:iM c.f1 (iq g.f1 g.f2 p s)=if s<g.f2 then[⟨0,g.f1+s,g.f2-s⟩]else[]:=by
  have o1:kZ (ai.mk g.f1 s p false)=false:=by
   unfold kZ;dsimp only;rw[decide_eq_false hp];rfl
  have o2:kZ (ai.mk (g.f1+s) (g.f2-s) 0 false)=true:=rfl;have Um:fZ []= []:=rfl;unfold iM iq;by_cases d:s<g.f2
  ·rw[if_pos d,if_pos d];simp only[fV];rw[if_neg (by rw[o1];simp),if_pos o2,if_neg (fun c=>c.1 rfl),Um];(have em2:fZ [(ai.mk (g.f1+s) (g.f2-s) 0 false)]= [jN [(ai.mk (g.f1+s) (g.f2-s) 0 false)]]:=by unfold fZ;rw[if_neg (by simp)]);(have es:fl [(ai.mk (g.f1+s) (g.f2-s) 0 false)]=g.f2-s:=by rw[rz,nN];exact Int.add_zero _);rw[em2,Ci (by simp),es];rfl
  ·rw[if_neg d,if_neg d];simp only[fV];rw[if_neg (by rw[o1];simp),Um];rfl
 have abQ:(Ew g p s c).f2=A++iq g.f1 g.f2 p s++B:=f2 _;have ayQ:iM c.f1 (Ew g p s c).f2=iM c.f1 A++(if s<g.f2 then[⟨0,g.f1+s,g.f2-s⟩]else[])++iM c.f1 B:=by
  rw[abQ,afC hr _ (by unfold iq;simp) (Or.inr ayP),eGN]
 have eg:(aZ.mk g.f0 g.f1 g.f2)=g:=rfl;have al5: ∀d:br,dG 0 (C1++d::C2)=dG 0 C1++(iM d.f1 d.f2).map (fun x=>⟨g.f0,x.f1,x.f2⟩)++dG (g.f0+1) C2:=by
  intro d;rw[ajH,dG,h2,List.append_assoc]
 have hP:dG 0 cs=(dG 0 C1++(iM c.f1 A).map (fun x=>⟨g.f0,x.f1,x.f2⟩))++g::((iM c.f1 B).map (fun x=>⟨g.f0,x.f1,x.f2⟩)++dG (g.f0+1) C2):=by
  rw[h1,al5,aqS hr,Ci hr.ne,←e1,←e2];simp
 refine⟨C1,c,C2,_,_,A,R,B,h,h1,by rw[h2];omega,hP,?_,⟨?_,?_,?_⟩,?_,?_,hr,e1,e2,ht,abQ,f1⟩
 ·rw[al5,show(Ew g p s c).f1=c.f1 from rfl,ayQ];unfold afA;split<;>simp
 ·have:=hg.len;rw[h1]at this;simpa using this
 ·intro d hd;rcases List.mem_append.mp hd with hd|hd
  ·exact hg.fix d (by rw[h1];simp[hd])
  ·rcases List.mem_cons.mp hd with rfl|hd
   ·exact hg.fix c hc
   ·exact hg.fix d (by rw[h1];simp[hd])
 ·intro d hd;rcases List.mem_append.mp hd with hd|hd
  ·exact hg.l5 d (by rw[h1];simp[hd])
  ·rcases List.mem_cons.mp hd with rfl|hd
   ·refine⟨h,hh,?_⟩;rw[abQ];have PL:=ht;rw[←hr.all]at PL;exact af8 PL hr.ne hN
   ·exact hg.l5 d (by rw[h1];simp[hd])
 ·intro hin;have al3:=ajI cs 0 (fun d hd=>by obtain⟨x,_,hx⟩:=hg.l5 d hd;exact⟨x,hx⟩);rw[hP,List.pairwise_append]at al3;have:=al3.2.2 g hin g (by simp);unfold ahF at this;omega
 ·have PL:=ht;rw[←hr.all,C7,C7]at PL;obtain⟨⟨ha,hb⟩,hc2⟩:=PL;have s1:=tR _ _ _ ha;have s3:=tR _ _ _ hc2;rw[zU]at s3;have er:gu R=0+fl A:=by
   have hne:=hr.ne;cases R with
   |nil=>exact absurd rfl hne
   |cons x R=>exact hb.1
  rw[e1,e2];omega
theorem akW{α:Type}{g:α}: ∀{P Q l1 l2:List α},P++g::Q=l1++g::l2→g ∉ P→g ∉ l1→P=l1∧Q=l2
 | [],Q,[],l2,e,_,_=>by simp at e;exact⟨rfl,e⟩
 | [],Q,x::l1,l2,e,_,h=>by simp at e;exact absurd (by rw[e.1];simp) h
 |x::P,Q,[],l2,e,h,_=>by simp at e;exact absurd (by rw[e.1];simp) h
 |x::P,Q,y::l1,l2,e,h,h'=>by
  simp at e;obtain⟨a,b⟩:=akW e.2 (fun hh=>h (by simp[hh])) (fun hh=>h' (by simp[hh]));exact⟨by rw[e.1,a],b⟩
theorem aE0{h:Int}{fx:List Int}(hf:fx.length≤1048576){bx:List ai}(hb:bx.length≤1048576)(p size:Int):Ev (fun k=>k7.f k h fx bx p size) (h,fx,LF h fx bx p size):=by
 unfold k7.f;refine Ev.bind (azw h fx hf bx hb size) ?_;have no: ∀g0 g1 g2,Ev (fun k=>k7.j0 k p size true h fx bx g0 g1 g2) (h,fx,bx,-1,false):=by
  intro g0 g1 g2;refine Ev.succ ?_;simp only[k7.j0];exact Ev.pos (by trivial) (Ev.bind (aa2 h fx bx (by omega) (by omega)) (Ev.ret _))
 unfold LF;cases hg:qm size (qQ h fx bx)with
 |none=>exact Ev.neg (by simp[rm]) (no _ _ _)
 |some g=>
  dsimp only;refine Ev.pos (by simp[rm]) (Ev.bind (Ev.const (Lt _ _ _)) ?_);by_cases c1:1≤p∧p≤999
  ·refine Ev.pos (decide_eq_true c1) (Ev.bind (aal h fx bx hb p) ?_);by_cases c2:tc bx p<0
   ·rw[if_pos ⟨c1,c2⟩,decide_eq_false (by omega)];have hc:hO h fx bx=true:=by
     apply Classical.byContradiction;intro hc;(have:qQ h fx bx= []:=by unfold qQ;rw[if_neg hc]);rw[this]at hg;simp[qm,q8]at hg
    have v:=(qd _ _ _).mp hc;obtain⟨A,R,B,_,e,h1,h2,h3,h4,_⟩:=aqC v hg c1 c2;(have e1:g.f1=gu R:=by rw[e]);(have e2:g.f2=fl R:=by rw[e]);refine Ev.succ ?_;simp only[k7.j0];refine Ev.neg (by simp) ?_;exact Ev.bind (azu h fx hf bx v.len g.f0 g.f1 g.f2 p size (by omega) (by omega) (by omega) (by omega) (by omega) (by omega)) (Ev.ret _)
   ·rw[if_neg (fun e=>c2 e.2),decide_eq_true (by omega)];exact no _ _ _
  ·rw[if_neg (fun e=>c1 e.1)];exact Ev.neg (by simpa using c1) (no _ _ _)
theorem aES(h:Int)(fx:List Int)(hf:fx.length≤1048576)(bx:List ai)(hl:bx.length≤24)(hm: ∀b ∈ bx,1≤b.f1∧b.f1≤24)(g0 lo sz p size:Int)(h0:0≤lo∧lo≤1000)(h1:0≤sz∧sz≤1000)(h2:0≤size∧size≤1000):
  Ev (fun k=>Ls.f k h fx bx g0 lo sz p size) (h,fx,uA lo (iq lo sz p size) bx (lR fx [] [] bx)):=by
 unfold Ls.f;refine Ev.bind (Ev.ret _) ?_;have hn:=aqf lo sz p size;have hF:=azv h fx hf bx hl hm lo (iq lo sz p size) (by omega);by_cases c:sz>size
 ·refine Ev.pos c (Ev.pos (by simp) ?_);rw[wid (lo+size) (by omega) (by omega),wid (sz-size) (by omega) (by omega)];(have e:iq lo sz p size= [⟨lo,size,p,false⟩]++ [⟨lo+size,sz-size,0,false⟩]:=by unfold iq;rw[if_pos c];rfl);rw[e]at hF⊢;exact Ev.bind hF (Ev.ret _)
 ·refine Ev.neg c ?_;(have e:iq lo sz p size= [⟨lo,size,p,false⟩]:=by unfold iq;rw[if_neg c]);rw[e]at hF⊢;exact Ev.bind hF (Ev.ret _)
def oc(l:List Int):Bool:=l.all (fun s=>decide (1≤s))&& decide (l.length≤8)
theorem EB(l:List Int):oc l=true↔(∀s ∈ l,1≤s)∧l.length≤8:=by
 unfold oc;rw[Bool.and_eq_true,List.all_eq_true,decide_eq_true_iff];constructor
 ·rintro⟨h1,h2⟩;exact⟨fun s hs=>of_decide_eq_true (h1 s hs),h2⟩
 ·rintro⟨h1,h2⟩;exact⟨fun s hs=>decide_eq_true (h1 s hs),h2⟩
theorem aq0(l:List Int)(hl:l.length≤1048576): ∀(rest:List Int) (i:Nat),l.drop i=rest→i≤l.length→Ev (fun k=>oK.l0 k l l (l.length:Int) (i:Int)) (rest.all (fun s=>decide (1≤s))&& decide (l.length≤8))
 | [],i,hd,hi=>by
  have he:=jA hd hi;refine Ev.succ ?_;simp only[oK.l0];refine Ev.neg (by omega) ((Ev.ret _).to ?_);rw[List.all_nil,Bool.true_and,decide_eq_decide];omega
 |s::rest,i,hd,hi=>by
  obtain⟨h1,h2,h3⟩:=ja 0 hd;have er:rd l (i:Int)=s:=h2;refine Ev.succ ?_;simp only[oK.l0,er];rw[fY i (by omega),List.all_cons];refine Ev.pos (by omega) (Ev.pos (by omega) (Ev.pos (by omega) ?_));by_cases c:s<1
  ·refine Ev.pos c ((Ev.ret _).to ?_);rw[decide_eq_false (by omega),Bool.false_and,Bool.false_and]
  ·refine Ev.neg c ((aq0 l hl rest (i+1) h3 (by omega)).to ?_);rw[decide_eq_true (show 1≤s by omega),Bool.true_and]
theorem aqZ(l:List Int)(hl:l.length≤1048576):Ev (fun k=>oK.f k l) (oc l):=by
 unfold oK.f oc;exact aq0 l hl l 0 rfl (by omega)
theorem aqY(l:List Int)(hl:l.length≤1048576): ∀(rest:List Int) (i:Nat),l.drop i=rest→i≤l.length→i≤9→Ev (fun k=>mD.l0 k l (i:Int)) (rest.all (fun s=>decide (1≤s))&& decide (l.length≤8))
 | [],i,hd,hi,h9=>by
  have he:=jA hd hi;refine Ev.succ ?_;simp only[mD.l0];refine Ev.neg (by omega) (Ev.succ ?_);simp only[mD.j1];refine Ev.neg (by simp) ((Ev.ret _).to ?_);rw[List.all_nil,Bool.true_and,decide_eq_decide];omega
 |s::rest,i,hd,hi,h9=>by
  obtain⟨h1,h2,h3⟩:=ja 0 hd;have er:rd l (i:Int)=s:=h2;refine Ev.succ ?_;simp only[mD.l0];refine Ev.pos (by omega) (Ev.succ ?_);simp only[mD.j1,er];rw[fY i (by omega),List.all_cons];by_cases c8:(i:Int)≤8
  ·refine Ev.pos (decide_eq_true c8) (Ev.pos (by omega) (Ev.pos (by omega) ?_));by_cases c:s<1
   ·refine Ev.pos c ((Ev.ret _).to ?_);rw[decide_eq_false (by omega),Bool.false_and,Bool.false_and]
   ·refine Ev.neg c ((aqY l hl rest (i+1) h3 (by omega) (by omega)).to ?_);rw[decide_eq_true (show 1≤s by omega),Bool.true_and]
  ·refine Ev.neg (by simpa using c8) ((Ev.ret _).to ?_);rw[decide_eq_false (show¬(l.length:Int)≤8 by omega),decide_eq_false (show¬l.length≤8 by omega),Bool.and_false]
theorem aFt(l:List Int)(hl:l.length≤1048576):Ev (fun k=>mD.f k l) (oc l):=by
 unfold mD.f oc;exact aqY l hl l 0 rfl (by omega) (by omega)
theorem aku(cs:List br)(hs:Small cs): ∀(rest:List br) (i:Nat) (acc:List br),cs.drop i=rest→i≤cs.length→acc.length=i→Ev (fun k=>q5.l0 k acc cs (cs.length:Int) (i:Int)) (acc++rest)
 | [],i,acc,hd,hi,ha=>by
  have he:=jA hd hi;have hl:=hs.1;refine Ev.succ ?_;simp only[q5.l0];exact Ev.neg (by omega) ((Ev.ret _).to (by simp))
 |c::rest,i,acc,hd,hi,ha=>by
  obtain⟨h1,h2,h3⟩:=ja lJ hd;have er:aN cs (i:Int)=c:=h2;(have hc:c ∈ cs:=by rw[←h2,oG _ h1];exact List.getElem_mem _);have hcs:=hs.2 c hc;have hl:=hs.1;refine Ev.succ ?_;simp only[q5.l0,er];rw[fY i (by omega)];refine Ev.pos (by omega) (Ev.pos (by omega) (Ev.pos (by omega) (Ev.bind (akv c.f0 c.f1 c.f2 (by omega) (by omega)) (Ev.pos (by omega) ?_))));refine(aku cs hs rest (i+1) (acc++ [c]) h3 (by omega) (by simp[ha])).to ?_;simp
theorem ax9(cs:List br)(hs:Small cs):Ev (fun k=>q5.f k cs) cs:=by
 unfold q5.f;exact aku cs hs cs 0 [] rfl (by omega) rfl
def Cr(cs:List br)(sizes:List Int):Int:=if lD cs=true∧oc sizes=true then(vO sizes (dH (dG 0 cs)):Int)else 0
theorem C3(gs:List aZ):(dH gs).length=gs.length:=List.length_map _
theorem aFb{A B:List br}{c:br}{r:Int}(h:r=A.length):aN (A++c::B) r=c:=by
 subst h;show(A++c::B).getD A.length _=c;rw[List.getD_eq_getElem?_getD,List.getElem?_append_right (Nat.le_refl _),Nat.sub_self];rfl
theorem aFo{A B:List br}{c d:br}{r:Int}(h:r=A.length):(A++c::B).set r.toNat d=A++d::B:=by
 subst h;rw[Int.toNat_natCast,List.set_append_right _ _ (Nat.le_refl _),Nat.sub_self];rfl
theorem anb(sizes:List Int)(hl:sizes.length≤8)(hs1: ∀s ∈ sizes,1≤s): ∀(rest:List Int) (i:Nat) (cs:List br),sizes.drop i=rest→i≤sizes.length→JI cs→
  Ev (fun k=>jd.l0 k sizes cs sizes (sizes.length:Int) (i:Int)) ((i:Int)+(vO rest (dH (dG 0 cs)):Int))
 | [],i,cs,hd,hi,Pa=>by
  have he:=jA hd hi;refine Ev.succ ?_;simp only[jd.l0];refine Ev.neg (by omega) ((Ev.ret _).to ?_);simp only[vO];omega
 |s::rest,i,cs,hd,hi,Pa=>by
  obtain⟨h1,h2,h3⟩:=ja 0 hd;have er:rd sizes (i:Int)=s:=h2;have hs:1≤s:=hs1 s (by rw[←h2,oG _ h1];exact List.getElem_mem _);have hrest: ∀x ∈ rest,1≤x:=fun x hx=>hs1 x (by
   (have:x ∈ sizes.drop i:=by rw[hd];simp[hx]);exact List.mem_of_mem_drop this)
  have hfl:=Pa.flat;have hgl:=aad cs 0 hfl.box;have uD:=hfl.len;refine Ev.succ ?_;simp only[jd.l0,er];refine Ev.pos (by omega) (Ev.pos (by omega) (Ev.pos (by omega) (Ev.bind (ajJ cs hfl) (Ev.bind (aEi _ (by omega) s) ?_))));(have eP:qm s (dG 0 cs)=q8 s none (dG 0 cs):=by unfold qm;rw[if_neg (by omega)]);simp only[vO];rw[eP];rcases RI s (dG 0 cs)with⟨q1,q2⟩|⟨l1,g,l2,q0,q1,q2,q3,q4⟩
  ·rw[q1,aEk q2];exact Ev.neg (by simp[rm]) ((Ev.ret _).to (by simp))
  ·have hat:sU s (dG 0 cs) l1 g l2:=⟨q0,q2,q3,q4⟩;obtain⟨m1,m2⟩:=aEj hs hat;rw[q1,m1];dsimp only;rw[m2];(have hgm:g ∈ dG 0 cs:=by rw[q0];simp);obtain⟨C1,c,C2,P,Q,A,R,B,h,e1,e2,e3,e4,e5,e6,e7,e8,e9,e10,e11,_⟩:=aw6 Pa hgm (p:= -1) (s:=s) (by omega) hs q2;(have hni:g ∉ l1:=fun hin=>by have:=q3 g hin;omega);obtain⟨rfl,rfl⟩:=akW (e3.symm.trans q0) e6 hni;(have hc:c ∈ cs:=by rw[e1];simp);refine Ev.pos (by simp[rm]) ?_;have x0:(rm (some g)).1=g.f0:=rfl;have x1:(rm (some g)).2.1=g.f1:=rfl;have x2:(rm (some g)).2.2.1=g.f2:=rfl;rw[x0,x1,x2];have lc:=congrArg List.length e1;simp at lc;(have Gg:aN cs g.f0=c:=by rw[e1];exact aFb e2);rw[Gg];refine Ev.pos (by omega) (Ev.pos (by omega) (Ev.bind (aES c.f0 c.f1 (Pa.fix c hc) c.f2 (hfl.box c hc) (hfl.sz c hc) g.f0 g.f1 g.f2 (-1) s (by omega) (by omega) (by omega)) ?_));have es:cs.set g.f0.toNat ⟨c.f0,c.f1,uA g.f1 (iq g.f1 g.f2 (-1) s) c.f2 (lR c.f1 [] [] c.f2)⟩=C1++Ew g (-1) s c::C2:=by
    rw[e1];exact aFo e2
   dsimp only;rw[es,fY i (by omega)];refine(anb sizes hl hs1 rest (i+1) _ h3 (by omega) e5).to ?_;have hpos: ∀x ∈ dG 0 cs,1≤x.f2:=fun x hx=>(aae cs 0 (fun d hd=>by obtain⟨y,y1,y2⟩:=Pa.l5 d hd;exact⟨y,y2,y1⟩) x hx).1;have e:vO rest (dH (dG 0 (C1++Ew g (-1) s c::C2)))=vO rest (dH P++(g.f2-s)::dH Q):=by
    rw[←acO rest (dH P++(g.f2-s)::dH Q) hrest,e4]
    congr 1
    have fP:ju (dH P)=dH P:=by
     unfold ju;rw[List.filter_eq_self];intro x hx;obtain⟨y,hy,rfl⟩:=List.mem_map.mp hx;have:=hpos y (by rw[e3];simp[hy]);exact decide_eq_true (by omega)
    have fQ:ju (dH Q)=dH Q:=by
     unfold ju;rw[List.filter_eq_self];intro x hx;obtain⟨y,hy,rfl⟩:=List.mem_map.mp hx;have:=hpos y (by rw[e3];simp[hy]);exact decide_eq_true (by omega)
    (have ea:ju (dH P++(g.f2-s)::dH Q)=ju (dH P)++ju ((g.f2-s)::dH Q):=by unfold ju;rw[List.filter_append]);rw[ea,fP];unfold afA;by_cases d:s<g.f2
    ·rw[if_pos d];(have eb:ju ((g.f2-s)::dH Q)=(g.f2-s)::ju (dH Q):=by unfold ju;rw[List.filter_cons_of_pos (by simpa using d)]);rw[eb,fQ];simp[dH]
    ·rw[if_neg d];(have eb:ju ((g.f2-s)::dH Q)=ju (dH Q):=by unfold ju;rw[List.filter_cons_of_neg (by simpa using d)]);rw[eb,fQ];simp[dH]
   rw[e];omega
theorem aBf(cs:List br)(hs:Small cs)(sizes:List Int)(hl:sizes.length≤1048576):Ev (fun k=>jd.f k cs sizes) (Cr cs sizes):=by
 unfold jd.f;have no:Ev (fun k=>jd.j0 k cs sizes true) 0:=by
  refine Ev.succ ?_;simp only[jd.j0];exact Ev.pos (by trivial) (Ev.ret _)
 refine Ev.bind (Ev.const rfl) ?_;by_cases hb:lD cs=true
 ·refine Ev.pos hb (Ev.bind (aqZ sizes hl) ?_);by_cases hz:oc sizes=true
  ·(have e:Cr cs sizes=(vO sizes (dH (dG 0 cs)):Int):=by unfold Cr;rw[if_pos ⟨hb,hz⟩]);have hsz:=(EB sizes).mp hz;have v:=(NI cs).mp hb;rw[e,hz];refine Ev.succ ?_;simp only[jd.j0];refine Ev.neg (by simp) (Ev.bind (ax9 cs hs) ?_);refine(anb sizes hsz.2 hsz.1 sizes 0 cs rfl (by omega) (v.geo hs)).to ?_;simp
  ·(have e:Cr cs sizes=0:=by unfold Cr;rw[if_neg (fun h=>hz h.2)]);(have hz2:oc sizes=false:=by simpa using hz);rw[e,hz2];exact no
 ·(have e:Cr cs sizes=0:=by unfold Cr;rw[if_neg (fun h=>hb h.1)]);rw[e];exact Ev.neg hb no
def kU(s:Int)(rec:List Int→Option (List Int))(rs:List Int):Nat→List Int→Option (List Int)
 |0,_=>none
 |m+1,tr=>if rs.getD (rs.length-(m+1)) 0<s∨rs.getD (rs.length-(m+1)) 0 ∈ tr then kU s rec rs m tr else match rec (rs.set (rs.length-(m+1)) (rs.getD (rs.length-(m+1)) 0-s))with|some l=>some (((rs.length-(m+1):Nat):Int)::l)|none=>kU s rec rs m (rs.getD (rs.length-(m+1)) 0::tr)
def fF:List Int→List Int→Option (List Int)
 | [],_=>some []
 |s::ss,rs=>kU s (fF ss) rs rs.length []
theorem af9(s:Int)(rec:List Int→Option (List Int))(rs:List Int)(n:Nat)(h: ∀r l,rec r=some l→l.length=n): ∀m tr l,kU s rec rs m tr=some l→l.length=n+1
 |0,tr,l,e=>by simp[kU]at e
 |m+1,tr,l,e=>by
  unfold kU at e;split at e
  ·exact af9 s rec rs n h m _ l e
  ·split at e
   ·next l' hl=>rw[←Option.some.inj e,List.length_cons,h _ _ hl]
   ·exact af9 s rec rs n h m _ l e
theorem LN: ∀(ss rs l:List Int),fF ss rs=some l→l.length=ss.length
 | [],rs,l,e=>by simp[fF]at e;rw[←e]
 |s::ss,rs,l,e=>af9 s _ rs ss.length (fun r l h=>LN ss r l h) _ _ l e
def j3:List Int→List Int→Prop
 | [],_=>True
 |s::ss,rs=> ∃x rest,rs.Perm (x::rest)∧s≤x∧j3 ss ((x-s)::rest)
theorem j3.perm: ∀{ss rs rs':List Int},j3 ss rs→rs.Perm rs'→j3 ss rs'
 | [],_,_,_,_=>trivial
 |_::_,_,_,⟨x,rest,h1,h2,h3⟩,hp=>⟨x,rest,hp.symm.trans h1,h2,h3⟩
theorem LM(rs:List Int)(i:Nat)(hi:i<rs.length)(y:Int): ∃rest,rs.Perm (rs.getD i 0::rest)∧(rs.set i y).Perm (y::rest):=by
 induction rs generalizing i with
 |nil=>simp at hi
 |cons a t ih=>
  cases i with
  |zero=>exact⟨t,List.Perm.refl _,List.Perm.refl _⟩
  |succ j=>
   obtain⟨rest,h1,h2⟩:=ih j (by simpa using hi);refine⟨a::rest,?_,?_⟩
   ·exact(List.Perm.cons a h1).trans (List.Perm.swap _ _ _)
   ·exact(List.Perm.cons a h2).trans (List.Perm.swap _ _ _)
theorem aga(s:Int)(ss:List Int)(rec:List Int→Option (List Int))(rs:List Int)(hr: ∀r,(rec r).isSome=true↔j3 ss r):
  ∀m tr,m≤rs.length→(∀x ∈ tr,∀rest,rs.Perm (x::rest)→ ¬j3 ss ((x-s)::rest))→kU s rec rs m tr=none→ ∀i,rs.length-m≤i→i<rs.length→s≤rs.getD i 0→ ∀rest,rs.Perm (rs.getD i 0::rest)→ ¬j3 ss ((rs.getD i 0-s)::rest)
 |0,tr,hm,ht,e,i,h1,h2,_,_,_=>by omega
 |m+1,tr,hm,ht,e,i,h1,h2,h3,rest,hp=>by
  unfold kU at e;(have hlt:rs.length-(m+1)<rs.length:=by omega);by_cases hi:i=rs.length-(m+1)
  ·subst hi;by_cases c:rs.getD (rs.length-(m+1)) 0<s∨rs.getD (rs.length-(m+1)) 0 ∈ tr
   ·rcases c with c|c
    ·omega
    ·exact ht _ c rest hp
   ·rw[if_neg c]at e;split at e
    ·simp at e
    ·next hn=>
     obtain⟨rest',q1,q2⟩:=LM rs _ hlt (rs.getD (rs.length-(m+1)) 0-s);intro hf;have PE:rest.Perm rest':=(hp.symm.trans q1).cons_inv;have:=(hr _).mpr (hf.perm (((List.Perm.cons _ PE)).trans q2.symm));rw[hn]at this;simp at this
  ·(have hge:rs.length-m≤i:=by omega);by_cases c:rs.getD (rs.length-(m+1)) 0<s∨rs.getD (rs.length-(m+1)) 0 ∈ tr
   ·rw[if_pos c]at e;exact aga s ss rec rs hr m tr (by omega) ht e i hge h2 h3 rest hp
   ·rw[if_neg c]at e;split at e
    ·simp at e
    ·next hn=>
     refine aga s ss rec rs hr m _ (by omega) (fun x hx I3 PD hf=>?_) e i hge h2 h3 rest hp;rcases List.mem_cons.mp hx with rfl|hx
     ·obtain⟨rest',q1,q2⟩:=LM rs _ hlt (rs.getD (rs.length-(m+1)) 0-s);have PE:I3.Perm rest':=(PD.symm.trans q1).cons_inv;have:=(hr _).mpr (hf.perm (((List.Perm.cons _ PE)).trans q2.symm));rw[hn]at this;simp at this
     ·exact ht x hx I3 PD hf
theorem agb(s:Int)(ss:List Int)(rec:List Int→Option (List Int))(rs:List Int)(hr: ∀r,(rec r).isSome=true↔j3 ss r):
  ∀m tr l,m≤rs.length→kU s rec rs m tr=some l→j3 (s::ss) rs
 |0,tr,l,hm,e=>by simp[kU]at e
 |m+1,tr,l,hm,e=>by
  unfold kU at e;by_cases c:rs.getD (rs.length-(m+1)) 0<s∨rs.getD (rs.length-(m+1)) 0 ∈ tr
  ·rw[if_pos c]at e;exact agb s ss rec rs hr m tr l (by omega) e
  ·rw[if_neg c]at e;split at e
   ·next l' hl=>
    obtain⟨rest',q1,q2⟩:=LM rs _ (show rs.length-(m+1)<rs.length by omega) (rs.getD (rs.length-(m+1)) 0-s);exact⟨_,rest',q1,by omega,((hr _).mp (by rw[hl];rfl)).perm q2⟩
   ·exact agb s ss rec rs hr m _ l (by omega) e
theorem uK: ∀(ss rs:List Int),(fF ss rs).isSome=true↔j3 ss rs
 | [],rs=>by simp[fF,j3]
 |s::ss,rs=>by
  have ih:=fun r=>uK ss r;unfold fF;constructor
  ·intro h;obtain⟨l,hl⟩:=Option.isSome_iff_exists.mp h;exact agb s ss _ rs ih _ _ l (Nat.le_refl _) hl
  ·intro⟨x,rest,h1,h2,h3⟩;cases e:kU s (fF ss) rs rs.length []with
   |some l=>rfl
   |none=>
    have hx:x ∈ rs:=h1.mem_iff.mpr List.mem_cons_self;obtain⟨i,hi,rfl⟩:=List.getElem_of_mem hx;(have eg:rs.getD i 0=rs[i]:=by rw[List.getD_eq_getElem?_getD,List.getElem?_eq_getElem hi];rfl);have:=aga s ss _ rs ih rs.length [] (Nat.le_refl _) (by simp) e i (by omega) hi (by rw[eg];exact h2) rest (by rw[eg];exact h1);rw[eg]at this;exact absurd h3 this
def R6(o:Option (List Int))(rs:List Int):List Int×Bool×List Int:=match o with|some l=>(l,true,rs)|none=>([],false,rs)
theorem vW(l:List Int)(i:Nat):rd l (i:Int)=l.getD i 0:=rfl
theorem aqW(l:List Int)(i:Nat)(h:i<l.length)(v:Int):(l.set i v).getD i 0=v:=by
 rw[List.getD_eq_getElem?_getD,List.getElem?_set_self h];rfl
theorem aFn(l:List Int)(i:Nat)(h:i<l.length):l.set i (l.getD i 0)=l:=by
 rw[List.getD_eq_getElem?_getD,List.getElem?_eq_getElem h];exact List.set_getElem_self h
theorem Xb(s:Int)(ss rs:List Int)(hs:1≤s)(hr: ∀r ∈ rs,0≤r∧r≤1000000000)(hl:rs.length≤1000)(sj:ss.length≤1000)
  (ih: ∀r':List Int,(∀r ∈ r',0≤r∧r≤1000000000)→r'.length≤1000→Ev (fun k=>fA.f k r' ss) (R6 (fF ss r') r')):
  ∀(m:Nat) (tr:List Int) (i:Nat),m≤rs.length→i=rs.length-m→tr.length≤i→Ev (fun k=>fA.l0 k rs (s::ss) (rs.length:Int) (i:Int) tr) (R6 (kU s (fF ss) rs m tr) rs)
 |0,tr,i,hm,hi,ht=>by
  refine Ev.succ ?_;simp only[fA.l0];exact Ev.neg (by omega) (Ev.ret _)
 |m+1,tr,i,hm,hi,ht=>by
  (have hlt:i<rs.length:=by omega);have hx:rs.getD i 0 ∈ rs:=by
   rw[List.getD_eq_getElem?_getD,List.getElem?_eq_getElem hlt];exact List.getElem_mem hlt
  have hb:=hr _ hx;(have hc0:(0:Int)<((s::ss).length:Int):=by rw[List.length_cons];omega);have hw:wrap64 ((i:Int)+1)=((i+1:Nat):Int):=fY i (by omega);refine Ev.succ ?_;simp only[fA.l0];refine Ev.pos (by omega) (Ev.pos (by omega) (Ev.pos (by omega) (Ev.pos ?_ (Ev.pos hc0 ?_))))
  ·rw[vW];exact⟨by omega,by omega⟩
  rw[vW,show rd (s::ss) 0=s from rfl];by_cases c:rs.getD i 0<s
  ·refine Ev.pos c (Ev.succ ?_);simp only[fA.j1];refine Ev.pos trivial ?_;rw[hw];refine(Xb s ss rs hs hr hl sj ih m tr (i+1) (by omega) (by omega) (by omega)).to ?_;rw[kU,←hi,if_pos (Or.inl c)]
  ·refine Ev.neg c (Ev.succ ?_);simp only[fA.j1];by_cases c2:rs.getD i 0 ∈ tr
   ·refine Ev.pos (decide_eq_true c2) ?_;rw[hw];refine(Xb s ss rs hs hr hl sj ih m tr (i+1) (by omega) (by omega) (by omega)).to ?_;rw[kU,←hi,if_pos (Or.inr c2)]
   ·refine Ev.neg (by rw[decide_eq_false c2];simp) (Ev.pos (by omega) (Ev.pos (by omega) (Ev.pos hc0 ?_)));rw[vW,show rd (s::ss) 0=s from rfl,show wrap64 (rs.getD i 0-s)=rs.getD i 0-s by unfold wrap64;omega,Int.toNat_natCast,show(s::ss).drop 1=ss from rfl];have adK: ∀r ∈ rs.set i (rs.getD i 0-s),0≤r∧r≤1000000000:=by
     intro r h;rcases List.mem_or_eq_of_mem_set h with h|h
     ·exact hr r h
     ·omega
    have al4:(rs.set i (rs.getD i 0-s)).set i (wrap64 (rd (rs.set i (rs.getD i 0-s)) (i:Int)+s))=rs:=by
     rw[vW,aqW rs i hlt,List.set_set,show wrap64 (rs.getD i 0-s+s)=rs.getD i 0 by unfold wrap64;omega,aFn rs i hlt]
    refine Ev.bind (ih _ adK (by rw[List.length_set];exact hl)) ?_;cases e:fF ss (rs.set i (rs.getD i 0-s))with
    |some l=>
     have hle:=LN ss _ l e;refine Ev.of_eq (F:=fun _=>some ((i:Int)::l,true,rs)) ?_ ?_
     ·refine(Ev.ret _).to ?_;rw[kU,←hi,if_neg (by intro h;rcases h with h|h;exact c h;exact c2 h),e];rfl
     ·intro k;simp only[R6,Option.bind_some,if_true];refine Eq.trans (if_pos (by rw[List.length_singleton];omega)) ?_;rw[al4];rfl
    |none=>
     refine Ev.of_eq (F:=fun k=>fA.l0 k rs (s::ss) (rs.length:Int) (((i+1:Nat)):Int) (rs.getD i 0::tr)) ?_ ?_
     ·refine(Xb s ss rs hs hr hl sj ih m (rs.getD i 0::tr) (i+1) (by omega) (by omega) (by rw[List.length_cons];omega)).to ?_;rw[kU,←hi,if_neg (by intro h;rcases h with h|h;exact c h;exact c2 h),e]
     ·intro k;simp only[R6,Option.bind_some,Bool.false_eq_true,if_false];rw[hw,al4]
theorem aq3: ∀(ss rs:List Int),(∀s ∈ ss,1≤s)→(∀r ∈ rs,0≤r∧r≤1000000000)→rs.length≤1000→ss.length≤1000→Ev (fun k=>fA.f k rs ss) (R6 (fF ss rs) rs)
 | [],rs,hs,hr,hl,sj=>by
  refine Ev.succ ?_;simp only[fA.f];exact Ev.pos rfl (Ev.ret _)
 |s::ss,rs,hs,hr,hl,sj=>by
  (have PJ:ss.length≤1000:=by rw[List.length_cons]at sj;omega);refine Ev.succ ?_;simp only[fA.f];refine Ev.neg (by rw[List.length_cons];omega) ?_;exact Xb s ss rs (hs s List.mem_cons_self) hr hl PJ (fun r' h1 h2=>aq3 ss r' (fun x hx=>hs x (List.mem_cons_of_mem _ hx)) h1 h2 PJ) rs.length [] 0 (Nat.le_refl _) (by omega) (by simp)
def nY:List Int→Int→List ai
 | [],_=> []
 |f::fs,low=>⟨low,wrap64 (f-low),0,false⟩::nY fs f
def CS(h:Int)(fx:List Int):Int×List Int×List ai×Bool:=
 if hO h fx (nY (fx++ [h]) 0)=true then(h,fx,nY (fx++ [h]) 0,true)else(0,[],[],false)
def vN:List Int→Int→Bool
 | [],_=>true
 |f::fs,low=>decide (low<f)&&(decide (f≤24)&& vN fs f)
theorem arI: ∀(l:List Int) (low hi:Int),(∀f ∈ l,-9223372036854775808≤f∧f≤9223372036854775807)→0≤low→low≤24→hi≤24→je low (nY l low) hi→vN l low=true
 | [],_,_,_,_,_,_,_=>rfl
 |f::l,low,hi,hr,h0,h1,h2,ht=>by
  simp only[nY,je]at ht;obtain⟨_,h3,h4⟩:=ht;have hs:=tR _ _ _ h4;have hf:=hr f (by simp);have e2:low+wrap64 (f-low)=f∧low<f∧f≤24:=by
   (have hlen:(0:Int)≤(nY l f).length:=by omega);(have:low+wrap64 (f-low)≤24:=by omega);unfold wrap64 at h3 this⊢;omega
  rw[e2.1]at h4;have ih:=arI l f hi (fun g hg=>hr g (by simp[hg])) (by omega) (by omega) h2 h4;simp only[vN,Bool.and_eq_true,decide_eq_true_eq];exact⟨e2.2.1,e2.2.2,ih⟩
theorem azF{l:List Int}{s d:Int}{i:Nat}(hi:i<l.length):(l++ [s]).getD i d=l.getD i d:=by
 rw[List.getD_eq_getElem?_getD,List.getD_eq_getElem?_getD,List.getElem?_append_left hi]
theorem azE{l:List Int}{s d:Int}{i:Nat}(hi:i=l.length):(l++ [s]).getD i d=s:=by
 subst hi;rw[List.getD_eq_getElem?_getD,List.getElem?_append_right (Nat.le_refl _),Nat.sub_self];rfl
theorem aqj(h:Int)(fx:List Int)(hf:fx.length≤1048576): ∀(rest:List Int) (i:Nat) (low:Int) (acc:List ai),(fx++ [h]).drop i=rest→i≤fx.length+1→acc.length=i→
  Ev (fun k=>mU.l0 k h fx low (i:Int) h fx acc) (if vN rest low=true∧hO h fx (acc++nY rest low)=true then(h,fx,acc++nY rest low,true)else(0,[],[],false))
 | [],i,low,acc,hd,hi,ha=>by
  have he:=jA hd (by simp;omega);simp at he;refine Ev.succ ?_;simp only[mU.l0,nY,vN,List.append_nil];refine Ev.neg (by omega) ?_;refine Ev.bind (KG h fx (by omega) acc (by omega)) ?_;refine Ev.to (Ev.ite (fun _=>Ev.ret _) (fun _=>Ev.ret _)) ?_;by_cases c:hO h fx acc=true
  ·rw[if_pos c,if_pos ⟨by trivial,c⟩]
  ·rw[if_neg c,if_neg (fun e=>c e.2)]
 |f::rest,i,low,acc,hd,hi,ha=>by
  obtain⟨h1,h2,h3⟩:=ja 0 hd;simp at h1;have ih:=aqj h fx hf rest (i+1) f (acc++ [⟨low,wrap64 (f-low),0,false⟩]) h3 (by omega) (by simp[ha]);rw[List.append_assoc]at ih;refine Ev.succ ?_;simp only[mU.l0];refine Ev.pos (by omega) ?_;have step: ∀{F:Nat→Option (Int×List Int×List ai×Bool)},Ev F (if vN rest f=true∧hO h fx (acc++nY (f::rest) low)=true then(h,fx,acc++nY (f::rest) low,true)else(0,[],[],false))→
    Ev (fun k=>if f≤low then some (0,[],[],false)else if f>24 then some (0,[],[],false)else if acc.length<4398046511104 then F k else none) (if vN (f::rest) low=true∧hO h fx (acc++nY (f::rest) low)=true then(h,fx,acc++nY (f::rest) low,true)else(0,[],[],false)):=by
   intro F hF;by_cases c1:f≤low
   ·refine Ev.pos c1 ((Ev.ret _).to ?_);rw[if_neg (fun e=>by have:=e.1;simp only[vN,Bool.and_eq_true,decide_eq_true_eq]at this;omega)]
   ·refine Ev.neg c1 ?_;by_cases c2:f>24
    ·refine Ev.pos c2 ((Ev.ret _).to ?_);rw[if_neg (fun e=>by have:=e.1;simp only[vN,Bool.and_eq_true,decide_eq_true_eq]at this;omega)]
    ·refine Ev.neg c2 (Ev.pos (by omega) (hF.to ?_));have e:vN (f::rest) low=vN rest f:=by
      simp only[vN];rw[decide_eq_true (show low<f by omega),decide_eq_true (show f≤24 by omega),Bool.true_and,Bool.true_and]
     rw[e]
  have ih2:Ev (fun k=>mU.l0 k h fx f ((i+1:Nat):Int) h fx (acc++ [⟨low,wrap64 (f-low),0,false⟩])) (if vN rest f=true∧hO h fx (acc++nY (f::rest) low)=true then(h,fx,acc++nY (f::rest) low,true)else(0,[],[],false)):=ih;by_cases c:i<fx.length
  ·(have er:rd fx (i:Int)=f:=by rw[←h2,azF c];rfl);refine Ev.pos (by omega) (Ev.pos (by omega) ?_);rw[er,fY i (by omega)];exact step ih2
  ·(have er:h=f:=by rw[←h2,azE (by omega)]);refine Ev.neg (by omega) ?_;rw[fY i (by omega)];subst er;exact step ih2
theorem aqi(h:Int)(fx:List Int)(hf:fx.length≤1048576)(hh: -9223372036854775808≤h∧h≤9223372036854775807)(hr: ∀f ∈ fx,-9223372036854775808≤f∧f≤9223372036854775807):Ev (fun k=>mU.f k h fx) (CS h fx):=by
 unfold mU.f;refine Ev.bind (Ev.ret _) (Ev.pos (by simp;omega) ?_);rw[List.nil_append];refine(aqj h fx hf (fx++ [h]) 0 0 [] rfl (by omega) rfl).to ?_;unfold CS;rw[List.nil_append];by_cases c:hO h fx (nY (fx++ [h]) 0)=true
 ·have v:=(qd _ _ _).mp c;rw[if_pos c,if_pos ⟨arI _ 0 h (fun f hf=>by
   rcases List.mem_append.mp hf with hf|hf
   ·exact hr f hf
   ·rw[List.mem_singleton.mp hf];exact hh) (by omega) (by omega) v.hi.2 v.l5,c⟩]
 ·rw[if_neg c,if_neg (fun e=>c e.2)]
theorem aw0(n:Int):Go.bits .and .i64 n 255=n%256:=by
 (have azP:(BitVec.ofInt 64 255).toNat=2 ^ 8-1:=by decide);have key:(BitVec.ofInt 64 n &&& BitVec.ofInt 64 255).toNat=(n%((2 ^ 64:Nat):Int)).toNat%2 ^ 8:=by
  rw[BitVec.toNat_and,BitVec.toNat_ofInt,azP,Nat.and_two_pow_sub_one_eq_mod]
 show IntKind.i64.wrap ((BitVec.ofInt 64 n &&& BitVec.ofInt 64 255).toNat:Nat)=n%256;rw[key,IntKind.wrap_i64];omega
theorem NS(l:List Int)(hl:l.length≤140737488351232)(i h:Int)(hi:0≤i): ∃v i' h',pN.f l i h=some (v,i',h')∧0≤v∧v≤255∧0≤i':=by
 unfold pN.f;simp only[aw0];by_cases h1:i<(l.length:Int)
 ·rw[if_pos h1,if_pos hi];(have e:wrap64 (i+1)=i+1:=by unfold wrap64;omega);rw[e];exact⟨_,_,_,rfl,by omega,by omega,by omega⟩
 ·rw[if_neg h1];exact⟨_,_,_,rfl,by omega,by omega,by omega⟩
theorem Xy(x n:Int)(hx:0≤x)(hn:0<n):0≤Int.tmod x n∧Int.tmod x n<n:=
 ⟨Int.tmod_nonneg n hx,Int.tmod_lt_of_pos x hn⟩
theorem rZ(l:List Int)(hl:l.length≤140737488351232)(i h n:Int)(hi:0≤i): ∃v i' h',eH.f l i h n=some (v,i',h')∧0≤v∧(n≤0→v=0)∧(0<n→v<n)∧0≤i':=by
 unfold eH.f;by_cases h0:n≤0
 ·rw[if_pos h0];exact⟨_,_,_,rfl,by omega,fun _=>rfl,fun _=>by omega,hi⟩
 ·rw[if_neg h0];(have hne: ¬n=0:=by omega);by_cases h1:n≤256
  ·rw[if_pos h1];obtain⟨v,i1,x1,e1,a1,b1,c1⟩:=NS l hl i h hi;rw[e1];simp only[Option.bind_some];rw[if_neg hne];exact⟨_,_,_,rfl,(Xy v n a1 (by omega)).1,fun _=>by omega,fun _=>(Xy v n a1 (by omega)).2,c1⟩
  ·rw[if_neg h1];obtain⟨v1,i1,x1,e1,a1,b1,c1⟩:=NS l hl i h hi;rw[e1];simp only[Option.bind_some];obtain⟨v2,i2,x2,e2,a2,b2,c2⟩:=NS l hl i1 x1 c1;rw[e2];simp only[Option.bind_some];obtain⟨v3,i3,x3,e3,a3,b3,c3⟩:=NS l hl i2 x2 c2;rw[e3];simp only[Option.bind_some];obtain⟨v4,i4,x4,e4,a4,b4,c4⟩:=NS l hl i3 x3 c3;rw[e4];simp only[Option.bind_some];rw[if_neg hne];have w:wrap64 ((wrap64 ((wrap64 ((wrap64 (v1*16777216))+(wrap64 (v2*65536))))+(wrap64 (v3*256))))+v4)=v1*16777216+v2*65536+v3*256+v4:=by
    unfold wrap64;omega
   rw[w];exact⟨_,_,_,rfl,(Xy _ n (by omega) (by omega)).1,fun _=>by omega,fun _=>(Xy _ n (by omega) (by omega)).2,c4⟩
theorem aev(l:List Int)(hl:l.length≤140737488351232)(i h n:Int)(hi:0≤i): ∃(b:Bool) (i' h':Int),vY.f l i h n=some (b,i',h')∧0≤i':=by
 obtain⟨v,i1,x1,e1,_,_,_,c1⟩:=rZ l hl i h n hi;unfold vY.f;rw[e1];exact⟨_,_,_,rfl,c1⟩
theorem WN(l:List Int)(hl:l.length≤140737488351232)(i h:Int)(xs:List Int)(hx:0<xs.length)(hi:0≤i): ∃v i' h',pO.f l i h xs=some (v,i',h')∧v ∈ xs∧0≤i':=by
 obtain⟨v,i1,x1,e1,a1,_,b1,c1⟩:=rZ l hl i h (xs.length:Int) hi;unfold pO.f;rw[e1];simp only[Option.bind_some];have b2:=b1 (by omega);rw[if_pos a1,if_pos b2];refine⟨_,_,_,rfl,?_,c1⟩;unfold rd;rw[oG _ (show v.toNat<xs.length by omega)];exact List.getElem_mem _
theorem aqk{h:Int}(hh:1≤h∧h≤24):CS h []=(h,[],[⟨0,h,0,false⟩],true):=by
 have e:nY ([]++ [h]) 0= [⟨0,h,0,false⟩]:=by
  show[(ai.mk 0 (wrap64 (h-0)) 0 false)]=_;rw[wid (h-0) (by omega) (by omega)];simp
 unfold CS;rw[e,if_pos];rw[qd];exact⟨hh,⟨rfl,hh.1,by show 0+h=h;omega⟩,by simp[nL],rfl,by simp⟩
theorem aEs{h x:Int}(hh:1≤h∧h≤24)(hx:1≤x∧x≤h-1):CS h [x]=(h,[x],[⟨0,x,0,false⟩,⟨x,h-x,0,false⟩],true):=by
 have e:nY ([x]++ [h]) 0= [⟨0,x,0,false⟩,⟨x,h-x,0,false⟩]:=by
  show[(ai.mk 0 (wrap64 (x-0)) 0 false),(ai.mk x (wrap64 (h-x)) 0 false)]=_;rw[wid (x-0) (by omega) (by omega),wid (h-x) (by omega) (by omega)];simp
 unfold CS;rw[e,if_pos];rw[qd];refine⟨hh,⟨rfl,by show 1≤x;omega,by show x=0+x;omega,by show 1≤h-x;omega,by show 0+x+(h-x)=h;omega⟩,by simp[nL],?_,?_⟩
 ·simp[mS,hx]
 ·intro f hf;rw[List.mem_singleton.mp hf];exact⟨⟨x,h-x,0,false⟩,by simp,rfl⟩
theorem Uj(l:List Int)(hl:l.length≤140737488351232)(first height:Int)(O0:0≤first∧first≤1000): ∀(n:Nat) (i y h:Int) (fx:List Int) (bx:List ai),n≤100→0≤i→fx.length≤1→jU h fx bx→vr first bx→
  ∃mm i' y',Ev (fun k=>eA.l0 k first height (n:Int) l i y h fx bx) (h,fx,mm,i',y')∧jU h fx mm∧vr first mm∧0≤i'
 |0,i,y,h,fx,bx,_,hi,hf,v,hp=>by
  refine⟨bx,i,y,Ev.succ ?_,v,hp,hi⟩;simp only[eA.l0];exact Ev.neg (by omega) (Ev.ret _)
 |n+1,i,y,h,fx,bx,hn,hi,hf,v,hp=>by
  have hlen:=v.len;obtain⟨a,i1,y1,e1,a0,_,a1,c1⟩:=rZ l hl i y 6 hi;have a1:=a1 (by omega);obtain⟨o,i2,y2,e2,o0,_,o1,c2⟩:=rZ l hl i1 y1 6 c1;(have ew:wrap64 (first+a)=first+a:=wid _ (by omega) (by omega));(have en:wrap64 (((n+1:Nat):Int)-1)=(n:Int):=by unfold wrap64;omega);have go: ∀s:Bool,∃mm i' y',Ev (fun k=>eA.j2 k first height ((n+1:Nat):Int) (first+a) o s l i2 y2 h fx bx) (h,fx,mm,i',y')∧jU h fx mm∧vr first mm∧0≤i':=by
   intro s;cases s with
   |true=>
    (obtain⟨mm,i',y',h1,h2,h3,h4⟩:=Uj l hl first height O0 n i2 y2 h fx _ (by omega) c2 hf (aGa v (first+a)) (aF9 hp (first+a)));refine⟨mm,i',y',Ev.succ ?_,h2,h3,h4⟩;simp only[eA.j2];rw[en];exact Ev.pos (by trivial) (Ev.bind (aGb h fx bx (by omega) (by omega) _) h1)
   |false=>
    by_cases c:o=2
    ·obtain⟨u,i3,y3,e3,_,_,_,c3⟩:=rZ l hl i2 y2 height c2;obtain⟨j,i4,y4,e4,c4⟩:=aev l hl i3 y3 3 c3;(obtain⟨mm,i',y',h1,h2,h3,h4⟩:=Uj l hl first height O0 n i4 y4 h fx _ (by omega) c4 hf (aD7 v u j) (aD6 hp u j));refine⟨mm,i',y',Ev.succ ?_,h2,h3,h4⟩;simp only[eA.j2];rw[en];exact Ev.neg (by simp) (Ev.pos c (Ev.bind (Ev.const e3) (Ev.bind (Ev.const e4) (Ev.bind (aD8 h fx bx (by omega) (by omega) u j) h1))))
    ·obtain⟨z,i3,y3,e3,z0,_,z1,c3⟩:=rZ l hl i2 y2 4 c2;have z1:=z1 (by omega);have ez:wrap64 (1+z)=1+z:=wid _ (by omega) (by omega);(obtain⟨mm,i',y',h1,h2,h3,h4⟩:=Uj l hl first height O0 n i3 y3 h fx _ (by omega) c3 hf (aEZ v (first+a) (1+z)) (aEY (h:=h) (fx:=fx) hp (first+a) (1+z) (by omega)));refine⟨mm,i',y',Ev.succ ?_,h2,h3,h4⟩;simp only[eA.j2];rw[en];refine Ev.neg (by simp) (Ev.neg c (Ev.bind (Ev.const e3) ?_));dsimp only;rw[ez];exact Ev.bind (aE0 (by omega) (by omega) _ _) h1
  obtain⟨mm,i',y',h1,h2,h3,h4⟩:=go (if o=0 then(o==0)else(o==1));refine⟨mm,i',y',Ev.succ ?_,h2,h3,h4⟩;simp only[eA.l0];refine Ev.pos (by omega) (Ev.bind (Ev.const e1) (Ev.bind (Ev.const e2) ?_));dsimp only;rw[ew];by_cases c:o=0
  ·rw[if_pos c]at h1;exact Ev.pos c h1
  ·rw[if_neg c]at h1;exact Ev.neg c h1
theorem akr(l:List Int)(hl:l.length≤140737488351232)(i y first:Int)(O0:0≤first∧first≤1000)(hi:0≤i):
  ∃h fx bx i' y',Ev (fun k=>eA.f k l i y first) (h,fx,bx,i',y')∧jU h fx bx∧vr first bx∧fx.length≤1∧0≤i':=by
 obtain⟨a,i1,y1,e1,a0,_,a1,c1⟩:=rZ l hl i y 9 hi;have a1:=a1 (by omega);obtain⟨b,i2,y2,e2,c2⟩:=aev l hl i1 y1 2 c1;have ew:wrap64 (4+a)=4+a:=wid _ (by omega) (by omega);have fin: ∀(i3 y3:Int) (fx:List Int) (bx:List ai),0≤i3→fx.length≤1→(∀x ∈ fx,1≤x∧x≤4+a-1)→CS (4+a) fx=(4+a,fx,bx,true)→ ∃mm i' y',Ev (fun k=>eA.j0 k first (4+a) fx l i3 y3) (4+a,fx,mm,i',y')∧jU (4+a) fx mm∧vr first mm∧0≤i':=by
  intro i3 y3 fx bx hi3 yL hr hnew;obtain⟨n,i4,y4,e4,n0,_,n1,c4⟩:=rZ l hl i3 y3 7 hi3;have n1:=n1 (by omega);have hv:jU (4+a) fx bx:=by
   have h0:=hnew;unfold CS at h0;split at h0
   ·next hc=>
    have h0:=congrArg (fun z:Int×List Int×List ai×Bool=>z.2.2.1) h0;dsimp only at h0;rw[h0]at hc;exact(qd _ _ _).mp hc
   ·simp at h0
  have hb0: ∀x ∈ bx,x.f2=0:=by
   have h0:=hnew;unfold CS at h0;split at h0
   ·have h0:=congrArg (fun z:Int×List Int×List ai×Bool=>z.2.2.1) h0;dsimp only at h0;rw[←h0];have bz: ∀(ws:List Int) (low:Int),∀x ∈ nY ws low,x.f2=0:=by
     intro ws;induction ws with
     |nil=>intro low x hx;simp[nY]at hx
     |cons w ws ih=>
      intro low x hx;rw[nY]at hx;rcases List.mem_cons.mp hx with rfl|hx
      ·rfl
      ·exact ih w x hx
    exact bz _ _
   ·simp at h0
  (obtain⟨mm,i',y',h1,h2,h3,h4⟩:=Uj l hl first (4+a) O0 n.toNat i4 y4 (4+a) fx bx (by omega) c4 yL hv (fun x hx=>Or.inl (hb0 x hx)));rw[show((n.toNat:Nat):Int)=n by omega]at h1;refine⟨mm,i',y',Ev.succ ?_,h2,h3,h4⟩;simp only[eA.j0];have hN:=aqi (4+a) fx (by omega) (by omega) (fun x hx=>by have:=hr x hx;omega);rw[hnew]at hN;exact Ev.bind hN (Ev.bind (Ev.const e4) h1)
 cases b with
 |false=>
  obtain⟨mm,i',y',h1,h2,h3,h4⟩:=fin i2 y2 [] _ c2 (by simp) (by simp) (aqk (by omega));refine⟨4+a,[],mm,i',y',?_,h2,h3,by simp,h4⟩;unfold eA.f;refine Ev.bind (Ev.const e1) (Ev.bind (Ev.ret _) (Ev.bind (Ev.const e2) (Ev.neg (by simp) ?_)));dsimp only;rw[ew];exact h1
 |true=>
  obtain⟨x,i3,y3,e3,x0,_,x1,c3⟩:=rZ l hl i2 y2 (4+a-2) c2;have x1:=x1 (by omega);have ex:wrap64 (1+x)=1+x:=wid _ (by omega) (by omega);have e22:wrap64 (4+a-2)=4+a-2:=wid _ (by omega) (by omega);obtain⟨mm,i',y',h1,h2,h3,h4⟩:=fin i3 y3 [1+x] _ c3 (by simp) (fun z hz=>by rw[List.mem_singleton.mp hz];omega) (aEs (by omega) (by omega));refine⟨4+a,[1+x],mm,i',y',?_,h2,h3,by simp,h4⟩;unfold eA.f;refine Ev.bind (Ev.const e1) (Ev.bind (Ev.ret _) (Ev.bind (Ev.const e2) (Ev.pos (by trivial) ?_)));dsimp only;rw[ew,e22];refine Ev.bind (Ev.const e3) (Ev.pos (by simp) ?_);dsimp only;rw[ex];exact h1
theorem aw2(l:List Int)(hl:l.length≤140737488351232)(i y:Int)(hi:0≤i):
  ∃h fx bx i' y',Ev (fun k=>jC.f k l i y) (h,fx,bx,i',y')∧fx.length≤2∧bx.length≤24∧0≤i'∧(∀x ∈ fx,-9223372036854775808≤x∧x≤9223372036854775807):=by
 obtain⟨h,fx,bx,i1,y1,e1,v,_,hf,c1⟩:=akr l hl i y 1 (by omega) hi;have hlen:=v.len;have hne:=v.ne;have hr: ∀x ∈ fx,-9223372036854775808≤x∧x≤9223372036854775807:=by
  intro x hx;obtain⟨b,hb,e⟩:=v.low x hx;have:=v.mem hb;omega
 obtain⟨k,i2,y2,e2,k0,_,k1,c2⟩:=rZ l hl i1 y1 (bx.length:Int) c1;have k1:=k1 (by omega);obtain⟨o,i3,y3,e3,o0,_,o1,c3⟩:=rZ l hl i2 y2 14 c2;have beg: ∀{G:Nat→(Int×List Int×List ai×Int×Int)→(Int×Int×Int)→(Int×Int×Int)→Option (Int×List Int×List ai×Int×Int)} {r},Ev (fun k'=>G k' (h,fx,bx,i1,y1) (k,i2,y2) (o,i3,y3)) r→
   Ev (fun k'=>(eA.f k' l i y 1).bind fun bt=>(eH.f l bt.2.2.2.1 bt.2.2.2.2 (bt.2.2.1.length:Int)).bind fun bt2=>(eH.f l bt2.2.1 bt2.2.2 14).bind fun bt3=>G k' bt bt2 bt3) r:=by
  intro G r hG;exact Ev.bind e1 (Ev.bind (Ev.const e2) (Ev.bind (Ev.const e3) hG))
 unfold jC.f;by_cases LA:o=0
 ·obtain⟨p,i4,y4,e4,_,c4⟩:=WN l hl i3 y3 [0,24,25,wrap64 (h+1)] (by simp) c3;exact⟨_,_,_,_,_,Ev.bind e1 (Ev.bind (Ev.const e2) (Ev.bind (Ev.const e3) (Ev.pos LA (Ev.bind (Ev.const e4) (Ev.ret _))))),(show fx.length≤2 by omega),hlen,c4,hr⟩
 ·by_cases RJ:o=1
  ·obtain⟨p,i4,y4,e4,_,c4⟩:=WN l hl i3 y3 [(-1),0,1,9223372036854775807] (by simp) c3;exact⟨_,_,_,_,_,Ev.bind e1 (Ev.bind (Ev.const e2) (Ev.bind (Ev.const e3) (Ev.neg LA (Ev.pos RJ (Ev.bind (Ev.const e4) (Ev.pos k0 (Ev.pos k1 (Ev.ret _)))))))),(show fx.length≤2 by omega),by rw[List.length_set];exact hlen,c4,hr⟩
  ·by_cases Wz:o=2
   ·obtain⟨p,i4,y4,e4,_,c4⟩:=WN l hl i3 y3 [(-1),1,999,1000] (by simp) c3;exact⟨_,_,_,_,_,Ev.bind e1 (Ev.bind (Ev.const e2) (Ev.bind (Ev.const e3) (Ev.neg LA (Ev.neg RJ (Ev.pos Wz (Ev.bind (Ev.const e4) (Ev.pos k0 (Ev.pos k1 (Ev.ret _))))))))),(show fx.length≤2 by omega),by rw[List.length_set];exact hlen,c4,hr⟩
   ·by_cases o_3:o=3
    ·obtain⟨p,i4,y4,e4,p0,_,p1,c4⟩:=rZ l hl i3 y3 14 c3;have p1:=p1 (by omega);refine⟨_,_,_,_,_,Ev.bind e1 (Ev.bind (Ev.const e2) (Ev.bind (Ev.const e3) (Ev.neg LA (Ev.neg RJ (Ev.neg Wz (Ev.pos o_3 (Ev.bind (Ev.const e4) (Ev.pos ?_ (Ev.ret _))))))))),by simp;omega,hlen,c4,fun x hx=>?_⟩
     ·show fx.length<_;omega
     ·rcases List.mem_append.mp hx with hx|hx
      ·exact hr x hx
      ·rw[List.mem_singleton.mp hx];show-9223372036854775808≤p∧p≤_;omega
    ·by_cases o_4:o=4
     ·exact⟨_,_,_,_,_,Ev.bind e1 (Ev.bind (Ev.const e2) (Ev.bind (Ev.const e3) (Ev.neg LA (Ev.neg RJ (Ev.neg Wz (Ev.neg o_3 (Ev.pos o_4 (Ev.ret _)))))))),(show fx.length≤2 by omega),by simp,c3,hr⟩
     ·exact⟨_,_,_,_,_,Ev.bind e1 (Ev.bind (Ev.const e2) (Ev.bind (Ev.const e3) (Ev.neg LA (Ev.neg RJ (Ev.neg Wz (Ev.neg o_3 (Ev.neg o_4 (Ev.ret _)))))))),(show fx.length≤2 by omega),hlen,c3,hr⟩
theorem aqh(l:List Int)(hl:l.length≤140737488351232): ∀(d:Nat) (h i:Int),0≤i→(l.length:Int)-i≤d→ ∃h',Ev (fun k=>qo.l0 k l h i) (l,0,h')
 |0,h,i,h0,hd=>by
  refine⟨h,Ev.succ ?_⟩;simp only[qo.l0];exact Ev.neg (by omega) (Ev.ret _)
 |d+1,h,i,h0,hd=>by
  by_cases h1:i<(l.length:Int)
  ·by_cases h2:i<4000
   ·(have e:wrap64 (i+1)=i+1:=by unfold wrap64;omega);obtain⟨h',hh⟩:=aqh l hl d (Go.bits .and .i64 (wrap64 ((wrap64 ((wrap64 (h*131))+(wrap64 (rd l i))))+7)) 1073741823) (i+1) (by omega) (by omega);refine⟨h',Ev.succ ?_⟩;simp only[qo.l0,e];exact Ev.pos h1 (Ev.pos h2 (Ev.pos h0 hh))
   ·refine⟨h,Ev.succ ?_⟩;simp only[qo.l0];exact Ev.pos h1 (Ev.neg h2 (Ev.ret _))
  ·refine⟨h,Ev.succ ?_⟩;simp only[qo.l0];exact Ev.neg h1 (Ev.ret _)
theorem aEr(l:List Int)(hl:l.length≤140737488351232): ∃h',Ev (fun k=>qo.f k l) (l,0,h'):=
 aqh l hl l.length _ 0 (by omega) (by omega)
def th(cs:List br)(sizes:List Int):Bool:=lD cs && oc sizes &&(fF sizes (dH (dG 0 cs))).isSome
def RQ(o:Option (List Int)):List Int×Bool:=match o with|some l=>(l,true)|none=>([],false)
theorem aqy(sizes:List Int)(gs:List aZ)(hl:gs.length≤144)(hp: ∀g ∈ gs,0≤g.f2∧g.f2≤24)(hs: ∀s ∈ sizes,1≤s)(hz:sizes.length≤8): ∀(rest:List aZ) (i:Nat),gs.drop i=rest→i≤gs.length→
  Ev (fun k=>kj.l0 k sizes (dH (gs.take i)) gs (gs.length:Int) (i:Int)) (RQ (fF sizes (dH gs)))
 | [],i,hd,hi=>by
  have he:=jA hd hi;refine Ev.succ ?_;simp only[kj.l0];rw[show gs.take i=gs from List.take_of_length_le (by omega)];refine Ev.neg (by omega) (Ev.bind (aq3 sizes (dH gs) hs (fun r hr=>?_) (by rw[C3];omega) (by omega)) ((Ev.ret _).to ?_))
  ·obtain⟨g,hg,rfl⟩:=List.mem_map.mp hr;have:=hp g hg;omega
  ·cases fF sizes (dH gs)<;>rfl
 |g::rest,i,hd,hi=>by
  obtain⟨h1,h2,h3⟩:=ja wv hd;have er:bX gs (i:Int)=g:=h2;have hlt:i<gs.length:=h1;refine Ev.succ ?_;simp only[kj.l0,er];rw[fY i (by omega)];refine Ev.pos (by omega) (Ev.pos (by omega) (Ev.pos (by omega) (Ev.pos ?_ ?_)))
  ·rw[C3,List.length_take];omega
  ·refine(aqy sizes gs hl hp hs hz rest (i+1) h3 (by omega)).of_eq (fun k=>?_);have eg:gs[i]? =some g:=by
    have:=congrArg (fun l=>l[0]?) hd;simpa[List.getElem?_drop]using this
   rw[List.take_add_one,eg];simp[dH]
def uJ(cs:List br)(sizes:List Int):List Int×Bool:=if lD cs=true∧oc sizes=true then RQ (fF sizes (dH (dG 0 cs)))else([],false)
theorem aqx(cs:List br)(hs:Small cs)(sizes:List Int)(hl:sizes.length≤1048576):Ev (fun k=>kj.f k cs sizes) (uJ cs sizes):=by
 have no:Ev (fun k=>kj.j0 k cs sizes true) ([],false):=by
  refine Ev.succ ?_;simp only[kj.j0];exact Ev.pos (by trivial) (Ev.ret _)
 unfold kj.f uJ;refine Ev.bind (Ev.const rfl) ?_;by_cases hb:lD cs=true
 ·refine Ev.pos hb (Ev.bind (aqZ sizes hl) ?_);by_cases hz:oc sizes=true
  ·have hsz:=(EB sizes).mp hz;have v:=(NI cs).mp hb;rw[if_pos ⟨hb,hz⟩,hz];refine Ev.succ ?_;simp only[kj.j0];(have e:wT cs=dG 0 cs:=by unfold wT;rw[if_pos hb]);refine Ev.neg (by simp) (Ev.bind (ajJ cs (v.flat hs)) ?_);exact aqy sizes (dG 0 cs) (e▸Z9 cs) (fun g hg=>by have:=aac cs g (e▸hg);omega) hsz.1 hsz.2 _ 0 rfl (by omega)
  ·rw[if_neg (fun h=>hz h.2),show oc sizes=false by simpa using hz];exact no
 ·rw[if_neg (fun h=>hb h.1)];exact Ev.neg hb no
theorem akh(cs:List br)(hs:Small cs)(sizes:List Int)(hl:sizes.length≤1048576):Ev (fun k=>tH.f k cs sizes) (th cs sizes):=by
 unfold tH.f;refine Ev.bind (aqx cs hs sizes hl) ((Ev.ret _).to ?_);unfold uJ th;by_cases h:lD cs=true∧oc sizes=true
 ·rw[if_pos h,h.1,h.2];cases fF sizes (dH (dG 0 cs))<;>rfl
 ·rw[if_neg h];by_cases hb:lD cs=true
  ·rw[hb,show oc sizes=false by simpa using fun hz=>h ⟨hb,hz⟩];rfl
  ·rw[show lD cs=false by simpa using hb];rfl
def E3(cs:List br):Prop:= ∀(j:Nat) (c:br),cs[j]? =some c→jU c.f0 c.f1 c.f2∧vr (1+6*(j:Int)) c.f2∧c.f1.length≤1
theorem E3.app{cs:List br}(h:E3 cs){c:br}(h1:jU c.f0 c.f1 c.f2)(h2:vr (1+6*(cs.length:Int)) c.f2)(h3:c.f1.length≤1):E3 (cs++ [c]):=by
 intro j d e;by_cases hj:j<cs.length
 ·rw[List.getElem?_append_left hj]at e;exact h j d e
 ·rw[List.getElem?_append_right (by omega)]at e;by_cases hz:j-cs.length=0
  ·rw[hz]at e;(have e2:c=d:=by simpa using e);subst e2;rw[show j=cs.length by omega];exact⟨h1,h2,h3⟩
  ·rw[List.getElem?_eq_none (by simp;omega)]at e;cases e
theorem E3.aw5{cs:List br}(h:E3 cs)(hl:1≤cs.length∧cs.length≤3):JA cs∧Small cs:=by
 have hm: ∀c ∈ cs,∃j:Nat,cs[j]? =some c:=by
  intro c hc;obtain⟨j,hj,e⟩:=List.getElem_of_mem hc;exact⟨j,by rw[List.getElem?_eq_getElem hj,e]⟩
 refine⟨⟨by omega,fun c hc=>?_,?_⟩,by omega,fun c hc=>?_⟩
 ·obtain⟨j,e⟩:=hm c hc;exact(qd _ _ _).mpr (h j c e).1
 ·rw[List.pairwise_iff_getElem];intro i j hi hj hij a ha b hb h0 e;have p1:=(h i _ (List.getElem?_eq_getElem hi)).2.1 a ha;have p2:=(h j _ (List.getElem?_eq_getElem hj)).2.1 b hb;omega
 ·obtain⟨j,e⟩:=hm c hc;obtain⟨v,_,h3⟩:=h j c e;have:=v.len;omega
theorem ajO(l:List Int)(hl:l.length≤140737488351232): ∀(n:Nat) (cs:List br) (i y:Int),cs.length+n≤3→0≤i→E3 cs→
  ∃out i' y',Ev (fun k=>nA.l0 k cs (n:Int) l i y) (out,i',y')∧E3 out∧out.length=cs.length+n∧0≤i'
 |0,cs,i,y,hn,hi,hd=>by
  refine⟨cs,i,y,Ev.succ ?_,hd,by omega,hi⟩;simp only[nA.l0];exact Ev.neg (by omega) (Ev.ret _)
 |n+1,cs,i,y,hn,hi,hd=>by
  obtain⟨h,fx,bx,i1,y1,e1,v,hp,hf,h1⟩:=akr l hl i y (1+6*(cs.length:Int)) (by omega) hi;obtain⟨out,i2,y2,e2,g1,g2,g3⟩:=ajO l hl n (cs++ [⟨h,fx,bx⟩]) i1 y1 (by rw[List.length_append,List.length_singleton];omega) h1 (hd.app (c:=⟨h,fx,bx⟩) v hp hf);refine⟨out,i2,y2,Ev.succ ?_,g1,by rw[g2,List.length_append,List.length_singleton];omega,g3⟩;simp only[nA.l0];rw[wid (6*(cs.length:Int)) (by omega) (by omega),wid (1+6*(cs.length:Int)) (by omega) (by omega),SH (n+1) (by omega) (by omega),show n+1-1=n from rfl];refine Ev.pos (by omega) (Ev.bind e1 (Ev.pos (by omega) e2))
theorem ap6(rs:List Int)(i:Nat)(s:Int)(hi:i<rs.length)(hl:rs.length≤1000000)(h0:0≤rs.getD i 0-s)(h1:rs.getD i 0-s≤1000000000):tN.f rs (i:Int) s=some (rs.set i (rs.getD i 0-s)):=by
 unfold tN.f;simp only[Option.bind_some,List.nil_append,List.length_nil];rw[if_pos (by omega),if_pos (by omega),if_pos (by omega),vW,wid _ (by omega) (by omega),Int.toNat_natCast]
theorem al1(l:List Int)(x:Int)(hl:l.length≤1000000): ∀(rest:List Int) (i:Nat),l.drop i=rest→i≤l.length→Ev (fun k=>mW.l0 k l x (i:Int)) (decide (x ∈ rest))
 | [],i,hd,hi=>by
  have he:=jA hd hi;refine Ev.succ ?_;simp only[mW.l0];exact Ev.neg (by omega) ((Ev.ret _).to (by simp))
 |b::rest,i,hd,hi=>by
  obtain⟨h2,h3,h4⟩:=ja 0 hd;have er:rd l (i:Int)=b:=h3;refine Ev.succ ?_;simp only[mW.l0,er];rw[fY i (by omega)];refine Ev.pos (by omega) (Ev.pos (by omega) ?_);by_cases c:b=x
  ·refine Ev.pos c ((Ev.ret _).to ?_);simp[c]
  ·refine Ev.neg c ((al1 l x hl rest (i+1) h4 (by omega)).to ?_);rw[decide_eq_decide,List.mem_cons];exact⟨Or.inr,fun h=>h.elim (fun e=>absurd e.symm c) id⟩
theorem azW(l:List Int)(x:Int)(hl:l.length≤1000000):Ev (fun k=>mW.f k l x) (decide (x ∈ l)):=al1 l x hl l 0 rfl (by omega)
theorem VL(s:Int)(ss rs:List Int)(hs:1≤s)(hr: ∀r ∈ rs,0≤r∧r≤1000000000)(hl:rs.length≤1000)(sj:ss.length≤1000)
  (ih: ∀r':List Int,(∀r ∈ r',0≤r∧r≤1000000000)→r'.length≤1000→Ev (fun k=>eO.f k r' ss) (fF ss r').isSome):
  ∀(m:Nat) (tr:List Int) (i:Nat),m≤rs.length→i=rs.length-m→tr.length≤i→Ev (fun k=>eO.l0 k rs (s::ss) tr.reverse (i:Int)) (kU s (fF ss) rs m tr).isSome
 |0,tr,i,hm,hi,ht=>by
  refine Ev.succ ?_;simp only[eO.l0];exact Ev.neg (by omega) ((Ev.ret _).to (by simp[kU]))
 |m+1,tr,i,hm,hi,ht=>by
  (have hlt:i<rs.length:=by omega);have hx:rs.getD i 0 ∈ rs:=by
   rw[List.getD_eq_getElem?_getD,List.getElem?_eq_getElem hlt];exact List.getElem_mem hlt
  have hb:=hr _ hx;(have hc0:(0:Int)<((s::ss).length:Int):=by rw[List.length_cons];omega);(have jB:(1:Int)≤((s::ss).length:Int):=by omega);have hlr:tr.reverse.length=tr.length:=List.length_reverse;refine Ev.succ ?_;simp only[eO.l0];rw[vW,show rd (s::ss) 0=s from rfl];refine Ev.pos (by omega) (Ev.pos (by omega) (Ev.pos hc0 ?_));by_cases c:rs.getD i 0<s
  ·refine Ev.pos c (Ev.succ ?_);simp only[eO.j1];rw[fY i (by omega)];refine Ev.pos trivial ((VL s ss rs hs hr hl sj ih m tr (i+1) (by omega) (by omega) (by omega)).to ?_);rw[kU,←hi,if_pos (Or.inl c)]
  ·refine Ev.neg c (Ev.bind (azW tr.reverse (rs.getD i 0) (by omega)) (Ev.succ ?_));simp only[eO.j1];rw[fY i (by omega)];by_cases c2:rs.getD i 0 ∈ tr
   ·refine Ev.pos (decide_eq_true (List.mem_reverse.mpr c2)) ((VL s ss rs hs hr hl sj ih m tr (i+1) (by omega) (by omega) (by omega)).to ?_);rw[kU,←hi,if_pos (Or.inr c2)]
   ·have adK: ∀r ∈ rs.set i (rs.getD i 0-s),0≤r∧r≤1000000000:=by
     intro r h;rcases List.mem_or_eq_of_mem_set h with h|h
     ·exact hr r h
     ·omega
    refine Ev.neg (by rw[decide_eq_false (fun h=>c2 (List.mem_reverse.mp h))];simp) (Ev.pos (by omega) (Ev.pos (by omega) (Ev.pos (by omega) (Ev.pos hc0 (Ev.bind (Ev.const ?_) (Ev.pos jB (Ev.bind (ih _ adK (by rw[List.length_set];exact hl)) ?_)))))))
    ·rw[show rd (s::ss) 0=s from rfl];exact ap6 rs i s hlt (by omega) (by omega) (by omega)
    ·rw[vW];cases e:fF ss (rs.set i (rs.getD i 0-s))with
     |some l=>
      refine Ev.pos rfl ((Ev.ret _).to ?_);rw[kU,←hi,if_neg (by intro h;rcases h with h|h;exact c h;exact c2 h),e];rfl
     |none=>
      have hh:=VL s ss rs hs hr hl sj ih m (rs.getD i 0::tr) (i+1) (by omega) (by omega) (by rw[List.length_cons];omega);rw[List.reverse_cons]at hh;refine Ev.neg (by simp) (hh.to ?_);rw[kU,←hi,if_neg (by intro h;rcases h with h|h;exact c h;exact c2 h),e]
theorem adG: ∀(ss rs:List Int),(∀s ∈ ss,1≤s)→(∀r ∈ rs,0≤r∧r≤1000000000)→rs.length≤1000→ss.length≤1000→Ev (fun k=>eO.f k rs ss) (fF ss rs).isSome
 | [],rs,hs,hr,hl,sj=>by
  refine Ev.succ ?_;simp only[eO.f];exact Ev.pos rfl (Ev.ret _)
 |s::ss,rs,hs,hr,hl,sj=>by
  (have PJ:ss.length≤1000:=by rw[List.length_cons]at sj;omega);refine Ev.succ ?_;simp only[eO.f];refine Ev.neg (by rw[List.length_cons];omega) ?_;exact VL s ss rs (hs s List.mem_cons_self) hr hl PJ (fun r' h1 h2=>adG ss r' (fun x hx=>hs x (List.mem_cons_of_mem _ hx)) h1 h2 PJ) rs.length [] 0 (Nat.le_refl _) (by omega) (by simp)
theorem swap_perm(l:List Int)(i j:Nat)(hi:i<l.length)(hj:j<l.length):((l.set i (l.getD j 0)).set j (l.getD i 0)).Perm l:=by
 (have e1:l.getD j 0=l[j]:=by rw[List.getD_eq_getElem?_getD,List.getElem?_eq_getElem hj];rfl);(have e2:l.getD i 0=l[i]:=by rw[List.getD_eq_getElem?_getD,List.getElem?_eq_getElem hi];rfl);rw[e1,e2];exact List.set_set_perm hi hj
theorem aky(x0:List Int)(i:Nat)(rest:List Int)(hi:i≤1000000)(next: ∀out:List Int,out.length=i+1→ ∃o,Ev (fun k=>iO.l0 k x0 out ((i+1:Nat):Int)) o∧o.Perm (out++rest)):
  ∀(k:Nat) (out:List Int),k<out.length→out.length=i+1→ ∃o,Ev (fun n=>iO.l1 n x0 out (i:Int) (k:Int)) o∧o.Perm (out++rest)
 |0,out,hk,ho=>by
  (obtain⟨o,e,hp⟩:=next out ho);refine⟨o,Ev.succ ?_,hp⟩;simp only[iO.l1];rw[fY i (by omega)];exact Ev.neg (by omega) e
 |k+1,out,hk,ho=>by
  by_cases c:out.getD k 0<out.getD (k+1) 0
  ·(obtain⟨o,e,hp⟩:=aky x0 i rest hi next k ((out.set (k+1) (out.getD k 0)).set k (out.getD (k+1) 0)) (by rw[List.length_set,List.length_set];omega) (by rw[List.length_set,List.length_set];omega));refine⟨o,Ev.succ ?_,hp.trans (List.Perm.append_right _ (swap_perm out (k+1) k hk (by omega)))⟩;simp only[iO.l1];rw[show wrap64 (((k+1:Nat):Int)-1)=(k:Int) by unfold wrap64;omega,Int.toNat_natCast,Int.toNat_natCast,vW,vW];exact Ev.pos (by omega) (Ev.pos (by omega) (Ev.pos (by omega) (Ev.pos (by omega) (Ev.pos (by omega) (Ev.pos c e)))))
  ·(obtain⟨o,e,hp⟩:=next out ho);refine⟨o,Ev.succ ?_,hp⟩;simp only[iO.l1];rw[show wrap64 (((k+1:Nat):Int)-1)=(k:Int) by unfold wrap64;omega,vW,vW,fY i (by omega)];exact Ev.pos (by omega) (Ev.pos (by omega) (Ev.pos (by omega) (Ev.pos (by omega) (Ev.pos (by omega) (Ev.neg c e)))))
theorem akz(x0:List Int)(hl:x0.length≤1000000): ∀(rest:List Int) (i:Nat) (out:List Int),x0.drop i=rest→i≤x0.length→out.length=i→ ∃o,Ev (fun k=>iO.l0 k x0 out (i:Int)) o∧o.Perm (out++rest)
 | [],i,out,hd,hi,ho=>by
  have he:=jA hd hi;refine⟨out,Ev.succ ?_,by rw[List.append_nil]⟩;simp only[iO.l0];exact Ev.neg (by omega) (Ev.ret _)
 |b::rest,i,out,hd,hi,ho=>by
  obtain⟨h2,h3,h4⟩:=ja 0 hd;have er:rd x0 (i:Int)=b:=h3;obtain⟨o,e,hp⟩:=aky x0 i rest (by omega) (fun out' h'=>akz x0 hl rest (i+1) out' h4 (by omega) h') i (out++ [b]) (by simp;omega) (by simp;omega);refine⟨o,Ev.succ ?_,by rw[List.append_assoc]at hp;exact hp⟩;simp only[iO.l0,er];refine Ev.pos (by omega) (Ev.pos (by omega) (Ev.pos (by omega) (Ev.bind (Ev.const rfl) ?_)));rw[show wrap64 (((out++ [b]).length:Int)-1)=(i:Int) by rw[List.length_append,List.length_singleton];unfold wrap64;omega];exact e
theorem akx(l:List Int)(hl:l.length≤1000000): ∃o,Ev (fun k=>iO.f k l) o∧o.Perm l:=akz l hl l 0 [] rfl (by omega) rfl
theorem azr{a b:Int}{ss rs:List Int}(ha:0≤a)(h:j3 (a::b::ss) rs):j3 (b::a::ss) rs:=by
 obtain⟨x,rest,h1,h2,y,I3,h3,h4,h5⟩:=h;by_cases c:y=x-a
 ·subst c;refine⟨x,rest,h1,by omega,x-b,rest,List.Perm.refl _,by omega,?_⟩;refine h5.perm ?_;rw[show x-b-a=x-a-b by omega];exact List.Perm.cons _ h3.cons_inv.symm
 ·have hy:y ∈ rest:=by
   rcases List.mem_cons.mp (h3.mem_iff.mpr List.mem_cons_self)with h|h
   ·exact absurd h c
   ·exact h
  obtain⟨p,q,rfl⟩:=List.append_of_mem hy;have hp:(p++y::q).Perm (y::(p++q)):=List.perm_middle;have h6:(y::I3).Perm (y::((x-a)::(p++q))):=h3.symm.trans ((List.Perm.cons _ hp).trans (List.Perm.swap _ _ _));have h7:=h6.cons_inv;refine⟨y,x::(p++q),h1.trans ((List.Perm.cons _ hp).trans (List.Perm.swap _ _ _)),h4,x,(y-b)::(p++q),List.Perm.swap _ _ _,h2,?_⟩;exact h5.perm ((List.Perm.cons _ h7).trans (List.Perm.swap _ _ _))
theorem abS{ss ss':List Int}(hp:ss.Perm ss'): ∀{rs:List Int},(∀s ∈ ss,0≤s)→j3 ss rs→j3 ss' rs:=by
 induction hp with
 |nil=>intro rs _ h;exact h
 |cons x _ ih=>
  intro rs h0 h;obtain⟨y,rest,h1,h2,h3⟩:=h;exact⟨y,rest,h1,h2,ih (fun s hs=>h0 s (List.mem_cons_of_mem _ hs)) h3⟩
 |swap x y l=>intro rs h0 h;exact azr (h0 y List.mem_cons_self) h
 |trans p1 _ ih1 ih2=>intro rs h0 h;exact ih2 (fun s hs=>h0 s (p1.mem_iff.mpr hs)) (ih1 h0 h)
theorem aEQ{l l':List Int}(h:l.Perm l'):l.sum=l'.sum:=by
 induction h with
 |nil=>rfl
 |cons x _ ih=>rw[List.sum_cons,List.sum_cons,ih]
 |swap x y l=>rw[List.sum_cons,List.sum_cons,List.sum_cons,List.sum_cons];omega
 |trans _ _ i1 i2=>exact i1.trans i2
theorem Xc: ∀(rs:List Int),(∀r ∈ rs,0≤r)→0≤rs.sum
 | [],_=>by simp
 |r::rs,h=>by
  have h1:=h r List.mem_cons_self;have h2:=Xc rs (fun x hx=>h x (List.mem_cons_of_mem _ hx));rw[List.sum_cons];omega
theorem akP: ∀(ss rs:List Int),(∀r ∈ rs,0≤r)→j3 ss rs→ss.sum≤rs.sum
 | [],rs,h,_=>by
  rw[List.sum_nil];exact Xc rs h
 |s::ss,rs,h,⟨x,rest,h1,h2,h3⟩=>by
  have hn: ∀r ∈(x-s)::rest,0≤r:=by
   intro r hr;rcases List.mem_cons.mp hr with rfl|hr
   ·omega
   ·exact h r (h1.mem_iff.mpr (List.mem_cons_of_mem _ hr))
  have ih:=akP ss _ hn h3;rw[aEQ h1,List.sum_cons,List.sum_cons];rw[List.sum_cons]at ih;omega
theorem Sx(s:Int)(ss:List Int)(rec:List Int→Option (List Int))(rs:List Int)(hr: ∀r,(rec r).isSome=true↔j3 ss r):
  ∀m tr l',m≤rs.length→(∀x ∈ tr,∀rest,rs.Perm (x::rest)→ ¬j3 ss ((x-s)::rest))→kU s rec rs m tr=some l'→
   ∃(n:Nat) (l:List Int),l'=(n:Int)::l∧rs.length-m≤n∧n<rs.length∧s≤rs.getD n 0∧rec (rs.set n (rs.getD n 0-s))=some l∧ ∀i,rs.length-m≤i→i<n→rs.getD i 0<s∨ ¬j3 ss (rs.set i (rs.getD i 0-s))
 |0,tr,l',hm,ht,e=>by simp[kU]at e
 |m+1,tr,l',hm,ht,e=>by
  unfold kU at e;(have hlt:rs.length-(m+1)<rs.length:=by omega);by_cases c:rs.getD (rs.length-(m+1)) 0<s∨rs.getD (rs.length-(m+1)) 0 ∈ tr
  ·rw[if_pos c]at e;obtain⟨n,l,h1,h2,h3,h4,h5,h6⟩:=Sx s ss rec rs hr m tr l' (by omega) ht e;refine⟨n,l,h1,by omega,h3,h4,h5,fun i i1 i2=>?_⟩;by_cases hi:i=rs.length-(m+1)
   ·subst hi;rcases c with c|c
    ·exact Or.inl c
    ·obtain⟨rest',q1,q2⟩:=LM rs _ hlt (rs.getD (rs.length-(m+1)) 0-s);exact Or.inr (fun hf=>ht _ c rest' q1 (hf.perm q2))
   ·exact h6 i (by omega) i2
  ·rw[if_neg c]at e;split at e
   ·next l hl=>
    exact⟨_,l,(Option.some.inj e).symm,Nat.le_refl _,hlt,by omega,hl,fun i i1 i2=>by omega⟩
   ·next hn=>
    have hno: ¬j3 ss (rs.set (rs.length-(m+1)) (rs.getD (rs.length-(m+1)) 0-s)):=by
     intro hf;have:=(hr _).mpr hf;rw[hn]at this;simp at this
    obtain⟨n,l,h1,h2,h3,h4,h5,h6⟩:=Sx s ss rec rs hr m _ l' (by omega) (fun x hx I3 PD hf=>by
     rcases List.mem_cons.mp hx with rfl|hx
     ·obtain⟨rest',q1,q2⟩:=LM rs _ hlt (rs.getD (rs.length-(m+1)) 0-s);have PE:I3.Perm rest':=(PD.symm.trans q1).cons_inv;exact hno (hf.perm (((List.Perm.cons _ PE)).trans q2.symm))
     ·exact ht x hx I3 PD hf) e
    refine⟨n,l,h1,by omega,h3,h4,h5,fun i i1 i2=>?_⟩;by_cases hi:i=rs.length-(m+1)
    ·subst hi;exact Or.inr hno
    ·exact h6 i (by omega) i2
theorem aFw{a b:Bool}(h:a=true↔b=true):a=b:=by cases a<;>cases b<;>simp_all
theorem aq4{ss ss':List Int}(rs:List Int)(h:ss'.Perm ss)(h0: ∀s ∈ ss,1≤s):(fF ss' rs).isSome=(fF ss rs).isSome:=by
 (have h1: ∀s ∈ ss,0≤s:=fun s hs=>by have:=h0 s hs;omega);have h2: ∀s ∈ ss',0≤s:=fun s hs=>h1 s (h.mem_iff.mp hs);exact aFw ((uK ss' rs).trans (Iff.trans ⟨fun f=>abS h h2 f,fun f=>abS h.symm h1 f⟩ (uK ss rs).symm))
theorem aER(sz:List Int)(c:Nat)(s:Int)(ss:List Int)(hd:sz.drop c=s::ss)(hc:sz.length≤1000)(hs: ∀x ∈ s::ss,1≤x)(rs:List Int)(hr: ∀r ∈ rs,0≤r∧r≤1000000000)(hl:rs.length≤1000)(acc:List Int)(ha:acc.length≤1000)
  (n:Nat) (hn:n<rs.length) (h4:s≤rs.getD n 0) (h5:(fF ss (rs.set n (rs.getD n 0-s))).isSome=true) (h6: ∀i,i<n→rs.getD i 0<s∨ ¬j3 ss (rs.set i (rs.getD i 0-s))) {R:List Int×Bool}
  (next:Ev (fun k=>dI.l2 k sz (rs.set n (rs.getD n 0-s)) (acc++ [(n:Int)]) ((c+1:Nat):Int)) R):
  ∀(d i:Nat),i+d=n→Ev (fun k=>dI.l3 k sz rs acc (c:Int) (i:Int)) R:=by
 intro d;obtain⟨q1,q2,q3⟩:=ja 0 hd;have er:rd sz (c:Int)=s:=q2;have hs1:=hs s List.mem_cons_self;have VP: ∀x ∈ ss,1≤x:=fun x hx=>hs x (List.mem_cons_of_mem _ hx);have hsl:ss.length≤1000:=by
  have:=congrArg List.length q3;rw[List.length_drop]at this;omega
 obtain⟨o,eo,po⟩:=akx ss (by omega);have held: ∀i,i<rs.length→s≤rs.getD i 0→Ev (fun k=>eO.f k (rs.set i (rs.getD i 0-s)) o) (fF ss (rs.set i (rs.getD i 0-s))).isSome:=by
  intro i hi h;have hx:rs.getD i 0 ∈ rs:=by
   rw[List.getD_eq_getElem?_getD,List.getElem?_eq_getElem hi];exact List.getElem_mem hi
  have hb:=hr _ hx;refine(adG o _ (fun x hx=>VP x (po.mem_iff.mp hx)) (fun r h=>?_) (by rw[List.length_set];exact hl) (by rw[po.length_eq];exact hsl)).to (aq4 _ po VP);rcases List.mem_or_eq_of_mem_set h with h|h
  ·exact hr r h
  ·omega
 have less: ∀i,i<rs.length→s≤rs.getD i 0→tN.f rs (i:Int) s=some (rs.set i (rs.getD i 0-s)):=by
  intro i hi h;have hx:rs.getD i 0 ∈ rs:=by
   rw[List.getD_eq_getElem?_getD,List.getElem?_eq_getElem hi];exact List.getElem_mem hi
  have hb:=hr _ hx;exact ap6 rs i s hi (by omega) (by omega) (by omega)
 induction d with
 |zero=>
  intro i hi;(have hin:i=n:=by omega);subst hin;refine Ev.succ ?_;simp only[dI.l3,er];rw[vW,fY c (by omega),Int.toNat_natCast,q3];refine Ev.pos (by omega) (Ev.pos (by omega) (Ev.pos (by omega) (Ev.pos (by omega) (Ev.neg (by omega) (Ev.bind (Ev.const (less i hn h4)) (Ev.pos (by omega) (Ev.pos (by omega) (Ev.bind eo (Ev.bind (held i hn h4) (Ev.pos h5 (Ev.bind (Ev.const (less i hn h4)) (Ev.pos (by omega) next))))))))))))
 |succ d ih=>
  intro i hi;refine Ev.succ ?_;simp only[dI.l3,er];rw[vW,fY c (by omega),fY i (by omega),Int.toNat_natCast,q3];refine Ev.pos (by omega) (Ev.pos (by omega) (Ev.pos (by omega) (Ev.pos (by omega) ?_)));by_cases cc:rs.getD i 0<s
  ·exact Ev.pos cc (ih (i+1) (by omega))
  ·have hno: ¬(fF ss (rs.set i (rs.getD i 0-s))).isSome=true:=by
    intro h;rcases h6 i (by omega)with h'|h'
    ·exact cc h'
    ·exact h' ((uK _ _).mp h)
   exact Ev.neg cc (Ev.bind (Ev.const (less i (by omega) (by omega))) (Ev.pos (by omega) (Ev.pos (by omega) (Ev.bind eo (Ev.bind (held i (by omega) (by omega)) (Ev.neg hno (ih (i+1) (by omega))))))))
theorem alm(sz:List Int)(hc:sz.length≤1000): ∀(rest:List Int) (c:Nat) (rs acc l:List Int),sz.drop c=rest→c≤sz.length→(∀x ∈ rest,1≤x)→(∀r ∈ rs,0≤r∧r≤1000000000)→rs.length≤1000→acc.length≤c→fF rest rs=some l→Ev (fun k=>dI.l2 k sz rs acc (c:Int)) (acc++l,true)
 | [],c,rs,acc,l,hd,uD,hs,hr,hl,ha,e=>by
  have he:=jA hd uD;simp[fF]at e;subst e;refine Ev.succ ?_;simp only[dI.l2];exact Ev.neg (by omega) ((Ev.ret _).to (by simp))
 |s::ss,c,rs,acc,l',hd,uD,hs,hr,hl,ha,e=>by
  obtain⟨q1,q2,q3⟩:=ja 0 hd;have e':kU s (fF ss) rs rs.length []=some l':=e;obtain⟨n,l,h1,h2,h3,h4,h5,h6⟩:=Sx s ss (fF ss) rs (fun r=>uK ss r) rs.length [] l' (Nat.le_refl _) (by simp) e';have hx:rs.getD n 0 ∈ rs:=by
   rw[List.getD_eq_getElem?_getD,List.getElem?_eq_getElem h3];exact List.getElem_mem h3
  have hb:=hr _ hx;have hs1:=hs s List.mem_cons_self;have next:=alm sz hc ss (c+1) (rs.set n (rs.getD n 0-s)) (acc++ [(n:Int)]) l q3 (by omega) (fun x hx=>hs x (List.mem_cons_of_mem _ hx)) (fun r h=>by
   rcases List.mem_or_eq_of_mem_set h with h|h
   ·exact hr r h
   ·omega) (by rw[List.length_set];exact hl) (by rw[List.length_append,List.length_singleton];omega) h5
  refine Ev.succ ?_;simp only[dI.l2];refine Ev.pos (by omega) ?_;refine(aER sz c s ss hd hc hs rs hr hl acc (by omega) n h3 h4 (by rw[h5];rfl) (fun i hi=>h6 i (by omega) hi) next n 0 (by omega)).to ?_;rw[h1,List.append_assoc];rfl
theorem arM(sz:List Int)(hc:sz.length≤1000)(hs: ∀x ∈ sz,1≤x)(rs:List Int)(hr: ∀r ∈ rs,0≤r∧r≤1000000000)(hl:rs.length≤1000): ∀(rest:List Int) (i:Nat) (tot:Int),sz.drop i=rest→i≤sz.length→0≤tot→tot≤1000000000→(∀x ∈ rest,1≤x)→sz.sum-rest.sum=rs.sum-tot→Ev (fun k=>dI.l1 k sz rs tot (i:Int)) (RQ (fF sz rs))
 | [],i,tot,hd,hi,h0,h1,hp,adL=>by
  have he:=jA hd hi;obtain⟨o,eo,po⟩:=akx sz (by omega);have hh:=(adG o rs (fun x hx=>hs x (po.mem_iff.mp hx)) hr hl (by rw[po.length_eq];exact hc)).to (aq4 rs po hs);refine Ev.succ ?_;simp only[dI.l1];refine Ev.neg (by omega) (Ev.bind eo (Ev.bind hh ?_));cases e:fF sz rs with
  |some l=>exact Ev.pos rfl ((alm sz hc sz 0 rs [] l rfl (by omega) hs hr hl (by simp) e).to rfl)
  |none=>exact Ev.neg (by simp) (Ev.ret _)
 |s::rest,i,tot,hd,hi,h0,h1,hp,adL=>by
  obtain⟨q1,q2,q3⟩:=ja 0 hd;have er:rd sz (i:Int)=s:=q2;have hs1:=hp s List.mem_cons_self;rw[List.sum_cons]at adL;refine Ev.succ ?_;simp only[dI.l1,er];rw[fY i (by omega)];refine Ev.pos (by omega) (Ev.pos (by omega) ?_);by_cases c:s>tot
  ·refine Ev.pos c ((Ev.ret _).to ?_);cases e:fF sz rs with
   |none=>rfl
   |some l=>
    have hf:=(uK sz rs).mp (by rw[e];rfl);have h2:=akP sz rs (fun r h=>(hr r h).1) hf;have h3:=Xc rest (fun x hx=>by have:=hp x (List.mem_cons_of_mem _ hx);omega);exfalso;omega
  ·refine Ev.neg c ?_;rw[wid _ (by omega) (by omega)];exact arM sz hc hs rs hr hl rest (i+1) (tot-s) q3 (by omega) (by omega) (by omega) (fun x hx=>hp x (List.mem_cons_of_mem _ hx)) (by omega)
theorem aqR(sz:List Int)(gs:List aZ)(hl:gs.length≤144)(hp: ∀g ∈ gs,0≤g.f2∧g.f2≤24){R:List Int×Bool}(next:(dH gs).sum≤24*144→Ev (fun k=>dI.l1 k sz (dH gs) (dH gs).sum 0) R): ∀(rest:List aZ) (i:Nat) (acc:List Int) (tot:Int),gs.drop i=rest→i≤gs.length→acc++dH rest=dH gs→tot+(dH rest).sum=(dH gs).sum→acc.length≤i→0≤tot→tot≤24*(i:Int)→Ev (fun k=>dI.l0 k sz acc tot gs (i:Int)) R
 | [],i,acc,tot,hd,hi,ha,ht,hal,h0,h1=>by
  have he:=jA hd hi;(have e1:acc=dH gs:=by simpa[dH]using ha);(have e2:tot=(dH gs).sum:=by simpa[dH]using ht);refine Ev.succ ?_;simp only[dI.l0];refine Ev.neg (by omega) ?_;rw[e1,e2];exact next (by omega)
 |g::rest,i,acc,tot,hd,hi,ha,ht,hal,h0,h1=>by
  obtain⟨q1,q2,q3⟩:=ja wv hd;have er:bX gs (i:Int)=g:=q2;(have hm:g ∈ gs:=by rw[←q2,oG _ q1];exact List.getElem_mem _);have hg:=hp g hm;have e3:dH (g::rest)=g.f2::dH rest:=rfl;rw[e3]at ha ht;rw[List.sum_cons]at ht;refine Ev.succ ?_;simp only[dI.l0,er];rw[fY i (by omega),wid _ (by omega) (by omega)];exact Ev.pos (by omega) (Ev.pos (by omega) (Ev.pos (by omega) (aqR sz gs hl hp next rest (i+1) (acc++ [g.f2]) (tot+g.f2) q3 (by omega) (by rw[←ha,List.append_assoc];rfl) (by omega) (by rw[List.length_append,List.length_singleton];omega) (by omega) (by omega))))
theorem aEU(cs:List br)(hs:Small cs)(sizes:List Int)(hl:sizes.length≤1048576):Ev (fun k=>dI.f k cs sizes) (uJ cs sizes):=by
 have no:Ev (fun k=>dI.j0 k cs sizes true) ([],false):=by
  refine Ev.succ ?_;simp only[dI.j0];exact Ev.pos (by trivial) (Ev.ret _)
 unfold dI.f uJ;refine Ev.bind (NJ cs hs) ?_;by_cases hb:lD cs=true
 ·refine Ev.pos hb (Ev.bind (aFt sizes hl) ?_);by_cases hz:oc sizes=true
  ·have hsz:=(EB sizes).mp hz;rw[if_pos ⟨hb,hz⟩,hz];refine Ev.succ ?_;simp only[dI.j0];(have e:wT cs=dG 0 cs:=by unfold wT;rw[if_pos hb]);have hlen:=e▸Z9 cs;(have hpos: ∀g ∈ dG 0 cs,0≤g.f2∧g.f2≤24:=fun g hg=>by have:=aac cs g (e▸hg);omega);refine Ev.neg (by simp) (Ev.bind ((ajM cs hs).to e) ?_);refine aqR sizes (dG 0 cs) hlen hpos (fun adL=>?_) (dG 0 cs) 0 [] 0 rfl (by omega) rfl (by simp) (by simp) (by omega) (by omega);have hrr: ∀r ∈ dH (dG 0 cs),0≤r∧r≤1000000000:=fun r hr=>by
    obtain⟨g,hg,rfl⟩:=List.mem_map.mp hr;have:=hpos g hg;omega
   exact arM sizes (by omega) hsz.1 (dH (dG 0 cs)) hrr (by rw[C3];omega) sizes 0 _ rfl (by omega) (Xc _ (fun r h=>(hrr r h).1)) (by omega) hsz.1 (by omega)
  ·rw[if_neg (fun h=>hz h.2),show oc sizes=false by simpa using hz];exact no
 ·rw[if_neg (fun h=>hb h.1)];exact Ev.neg hb no
theorem aqU(l:List Int)(hl:l.length≤1048576):Ev (fun k=>oL.f k l l) true:=Ev.mk l.length (fun k hk=>by
 unfold oL.f;rw[if_pos rfl];have h:=awZ (L:=fun k i=>oL.l0 k l l i) (n:=l.length) (P:=fun _=>true) (fun k i hi=>?_) (fun k=>?_) l.length k 0 (by omega) hk
 ·(have e:(List.range' 0 l.length).all (fun _=>true)=true:=by simp);rw[e]at h;exact h
 ·simp only[oL.l0];rw[if_pos (by omega),if_pos (by omega),if_pos (by omega)];simp only[if_true];rw[fY i (by omega)]
 ·simp only[oL.l0];rw[if_neg (by omega)])
theorem abT: ∀(ss:List Int) (x y:Int) (rest:List Int),y≤x→j3 ss (y::rest)→j3 ss (x::rest)
 | [],_,_,_,_,_=>trivial
 |a::ss,x,y,rest,hxy,⟨z,r2,h1,h2,h3⟩=>by
  by_cases c:z=y
  ·subst c;exact⟨x,rest,List.Perm.refl _,by omega,abT ss (x-a) (z-a) rest (by omega) (h3.perm (List.Perm.cons _ h1.cons_inv.symm))⟩
  ·have hz:z ∈ rest:=by
    rcases List.mem_cons.mp (h1.mem_iff.mpr List.mem_cons_self)with h|h
    ·exact absurd h c
    ·exact h
   obtain⟨p,q,rfl⟩:=List.append_of_mem hz;have hp:(p++z::q).Perm (z::(p++q)):=List.perm_middle;have h6:(z::r2).Perm (z::(y::(p++q))):=h1.symm.trans ((List.Perm.cons _ hp).trans (List.Perm.swap _ _ _));have h7:=h6.cons_inv;refine⟨z,x::(p++q),(List.Perm.cons _ hp).trans (List.Perm.swap _ _ _),h2,?_⟩;have h8:j3 ss (y::(z-a)::(p++q)):=h3.perm ((List.Perm.cons _ h7).trans (List.Perm.swap _ _ _));exact(abT ss x y _ hxy h8).perm (List.Perm.swap _ _ _)
theorem azq{s:Int}{ss rs:List Int}(hs:0≤s)(h:j3 (s::ss) rs):j3 ss rs:=by
 obtain⟨x,rest,h1,_,h3⟩:=h;exact(abT ss x (x-s) rest (by omega) h3).perm h1.symm
theorem azs(ss rs:List Int)(i:Nat)(hi:i<ss.length)(h0: ∀s ∈ ss,0≤s)(h:j3 ss rs):j3 (ss.take i++ss.drop (i+1)) rs:=by
 (have e:ss.take i++ss[i]::ss.drop (i+1)=ss:=by rw[List.getElem_cons_drop,List.take_append_drop]);have hp:ss.Perm (ss[i]::(ss.take i++ss.drop (i+1))):=by
  have:=List.perm_middle (a:=ss[i]) (l₁:=ss.take i) (l₂:=ss.drop (i+1));rw[e]at this;exact this
 exact azq (h0 _ (List.getElem_mem hi)) (abS hp h0 h)
theorem ana: ∀(ss rs:List Int),vO ss rs=ss.length→j3 ss rs
 | [],_,_=>trivial
 |s::ss,rs,h=>by
  rw[vO]at h;rcases Lx s rs with⟨h1,_⟩|⟨m,h1,h2,h3,_⟩
  ·rw[h1]at h;simp at h
  ·rw[h1]at h;dsimp only at h;obtain⟨l1,l2,e,_,e2⟩:=aqO s h2;have ih:=ana ss (su s m rs) (by rw[List.length_cons]at h;omega);rw[e2]at ih;refine⟨m,l1++l2,?_,h3,ih.perm List.perm_middle⟩;rw[e];exact List.perm_middle
def qn:List Int→List Int→List Int→List Int
 |r,[],_=>r
 |r,_::_,[]=>r
 |r,d::ds,s::ss=>qn (r.set d.toNat (r.getD d.toNat 0-s)) ds ss
def Fz:List Int→List Int→List Int→Prop
 |_,[],_=>True
 |_,_::_,[]=>False
 |r,d::ds,s::ss=>(∃n:Nat,d=n∧n<r.length∧0≤r.getD n 0-s∧r.getD n 0-s≤1000)∧Fz (r.set d.toNat (r.getD d.toNat 0-s)) ds ss
theorem W5: ∀(ds ss r:List Int),(qn r ds ss).length=r.length
 | [],_,_=>by simp[qn]
 |_::_,[],_=>by simp[qn]
 |d::ds,s::ss,r=>by rw[qn,W5 ds ss,List.length_set]
theorem aqL: ∀(ds ss r:List Int) (d s:Int) (tl:List Int),ss.drop ds.length=s::tl→qn r (ds++ [d]) ss=(qn r ds ss).set d.toNat ((qn r ds ss).getD d.toNat 0-s)
 | [],ss,r,d,s,tl,h=>by
  rw[List.length_nil,List.drop_zero]at h;subst h;rfl
 |_::_,[],_,_,_,_,h=>by simp at h
 |x::ds,y::ss,r,d,s,tl,h=>by
  rw[List.cons_append,qn,qn];exact aqL ds ss _ d s tl (by simpa using h)
theorem aqo: ∀(ds ss r:List Int) (n:Nat) (s:Int) (tl:List Int),ss.drop ds.length=s::tl→Fz r ds ss→n<r.length→0≤(qn r ds ss).getD n 0-s→(qn r ds ss).getD n 0-s≤1000→Fz r (ds++ [(n:Int)]) ss
 | [],ss,r,n,s,tl,h,_,hn,h0,h1=>by
  rw[List.length_nil,List.drop_zero]at h;subst h;exact⟨⟨n,rfl,hn,h0,h1⟩,trivial⟩
 |_::_,[],_,_,_,_,h,_,_,_,_=>by simp at h
 |x::ds,y::ss,r,n,s,tl,h,ho,hn,h0,h1=>by
  refine⟨ho.1,?_⟩;exact aqo ds ss _ n s tl (by simpa using h) ho.2 (by rw[List.length_set];exact hn) h0 h1
theorem ap5(gs:List aZ)(sizes done:List Int)(hlen:done.length≤1000)(q:Nat){R:List Int}: ∀(rest I7:List Int) (n:Nat) (r:List Int),done.drop n=rest→n≤done.length→sizes.drop n=I7→Fz r rest I7→q<r.length→
  Ev (fun k=>hU.l1 k gs sizes done (q:Int) ((qn r rest I7).getD q 0) (done.length:Int)) R→Ev (fun k=>hU.l1 k gs sizes done (q:Int) (r.getD q 0) (n:Int)) R
 | [],I7,n,r,hd,hn,hs,ho,hq,fin=>by
  have he:=jA hd hn;subst he;(have e:qn r [] I7=r:=by simp[qn]);rw[e]at fin;exact fin
 |d::rest,[],n,r,hd,hn,hs,ho,hq,fin=>absurd ho (by simp[Fz])
 |d::rest,s::I7,n,r,hd,hn,hs,ho,hq,fin=>by
  obtain⟨q1,q2,q3⟩:=ja 0 hd;obtain⟨p1,p2,p3⟩:=ja 0 hs;have er:rd done (n:Int)=d:=q2;have es:rd sizes (n:Int)=s:=p2;obtain⟨⟨m,rfl,m1,m2,m3⟩,GR⟩:=ho;rw[Int.toNat_natCast]at GR;rw[qn,Int.toNat_natCast]at fin;have ih:=ap5 gs sizes done hlen q rest I7 (n+1) _ q3 (by omega) p3 GR (by rw[List.length_set];exact hq) fin;refine Ev.succ ?_;simp only[hU.l1,er,es];rw[fY n (by omega)];refine Ev.pos (by omega) (Ev.pos (by omega) ?_);by_cases c:m=q
  ·subst c;rw[aqW r m m1]at ih;refine Ev.pos rfl (Ev.pos (by omega) ?_);rw[wid _ (by omega) (by omega)];exact ih
  ·have e:(r.set m (r.getD m 0-s)).getD q 0=r.getD q 0:=by
    rw[List.getD_eq_getElem?_getD,List.getElem?_set_ne c,←List.getD_eq_getElem?_getD]
   rw[e]at ih;exact Ev.neg (by omega) ih
def M8(s:Int)(ss rs:List Int)(i:Nat):Prop:=s≤rs.getD i 0∧(fF ss (rs.set i (rs.getD i 0-s))).isSome=true
theorem aFy{s:Int}{ss rs:List Int}{n:Nat}(hn:n<rs.length)(hg:M8 s ss rs n)(h: ∀j,j<n→ ¬M8 s ss rs j): ∃l,fF ss (rs.set n (rs.getD n 0-s))=some l∧fF (s::ss) rs=some ((n:Int)::l):=by
 have hf:(fF (s::ss) rs).isSome=true:=by
  rw[uK];obtain⟨rest,q1,q2⟩:=LM rs n hn (rs.getD n 0-s);exact⟨_,rest,q1,hg.1,((uK _ _).mp hg.2).perm q2⟩
 obtain⟨l',hl'⟩:=Option.isSome_iff_exists.mp hf;have e':kU s (fF ss) rs rs.length []=some l':=hl';obtain⟨m,l,h1,h2,h3,h4,h5,h6⟩:=Sx s ss (fF ss) rs (fun r=>uK ss r) rs.length [] l' (Nat.le_refl _) (by simp) e';have hm:m=n:=by
  by_cases c:m<n
  ·exact absurd ⟨h4,by rw[h5];rfl⟩ (h m c)
  ·by_cases c2:n<m
   ·rcases h6 n (by omega) c2 with h'|h'
    ·have:=hg.1;omega
    ·exact absurd ((uK _ _).mp hg.2) h'
   ·omega
 subst hm;exact⟨l,h5,by rw[hl',h1]⟩
theorem aFx{s:Int}{ss rs:List Int}(h: ∀j,j<rs.length→ ¬M8 s ss rs j):fF (s::ss) rs=none:=by
 cases e:fF (s::ss) rs with
 |none=>rfl
 |some l'=>
  have e':kU s (fF ss) rs rs.length []=some l':=e;obtain⟨m,l,h1,h2,h3,h4,h5,h6⟩:=Sx s ss (fF ss) rs (fun r=>uK ss r) rs.length [] l' (Nat.le_refl _) (by simp) e';exact absurd ⟨h4,by rw[h5];rfl⟩ (h m h3)
def KN(done:List Int)(o:Option (List Int)):List Int:=match o with|some l=>done++l|none=> []
theorem akV(gs:List aZ)(sizes done:List Int)(hg:gs.length≤1000)(hz:sizes.length≤100)(s:Int)(ss r:List Int)(hd:sizes.drop done.length=s::ss)(ho:Fz (dH gs) done sizes)(hr:qn (dH gs) done sizes=r)
  (next: ∀i,i<gs.length→0≤r.getD i 0-s→Ev (fun k=>hU.f k gs sizes (done++ [(i:Int)])) (KN (done++ [(i:Int)]) (fF ss (r.set i (r.getD i 0-s))))):
  ∀(d i:Nat),i+d=gs.length→(∀j,j<i→ ¬M8 s ss r j)→Ev (fun k=>hU.l0 k gs sizes done (i:Int)) (KN done (fF (s::ss) r))
 |0,i,hi,hb=>by
  (have hrl:r.length=gs.length:=by rw[←hr,W5,C3]);refine Ev.succ ?_;simp only[hU.l0];refine Ev.neg (by omega) ((Ev.ret _).to ?_);rw[aFx (fun j hj=>hb j (by omega))];rfl
 |d+1,i,hi,hb=>by
  (have hrl:r.length=gs.length:=by rw[←hr,W5,C3]);(have hilt:i<gs.length:=by omega);obtain⟨q1,q2,q3⟩:=ja 0 hd;have es:rd sizes (done.length:Int)=s:=q2;have OX:done.length<sizes.length:=q1;have hsl:ss.length+done.length+1=sizes.length:=by
   have:=congrArg List.length hd;rw[List.length_drop,List.length_cons]at this;omega
  have e2:(bX gs (i:Int)).f2=(dH gs).getD i 0:=by
   show(gs.getD i wv).f2=_;rw[oG _ hilt,oG _ (show i<(dH gs).length by rw[C3];exact hilt)];simp[dH]
  have go: ¬M8 s ss r i→Ev (fun k=>hU.l0 k gs sizes done ((i+1:Nat):Int)) (KN done (fF (s::ss) r)):=fun hn=>
   akV gs sizes done hg hz s ss r hd ho hr next d (i+1) (by omega) (fun j hj=>by
    by_cases c:j=i
    ·subst c;exact hn
    ·exact hb j (by omega))
  refine Ev.succ ?_;simp only[hU.l0,e2];refine Ev.pos (by omega) (Ev.pos (by omega) ?_);refine ap5 gs sizes done (by omega) i done sizes 0 (dH gs) rfl (by omega) rfl ho (by rw[C3];exact hilt) ?_;rw[hr];refine Ev.succ ?_;simp only[hU.l1,es,Option.bind_some,List.nil_append,List.length_nil];rw[fY i (by omega)];refine Ev.neg (by omega) (Ev.pos (by omega) (Ev.pos (by omega) ?_));by_cases c:r.getD i 0<s
  ·exact Ev.pos c (go (fun h=>by have:=h.1;omega))
  ·refine Ev.neg c (Ev.pos (by omega) (Ev.pos (by omega) (Ev.bind (next i hilt (by omega)) ?_)));cases e:fF ss (r.set i (r.getD i 0-s))with
   |some l=>
    have VH:=LN ss _ l e;obtain⟨l2,e3,e4⟩:=aFy (s:=s) (by omega) ⟨by omega,by rw[e];rfl⟩ hb;rw[e]at e3;cases e3;rw[e4];refine Ev.pos ?_ ((Ev.ret _).to ?_)
    ·show(((done++ [(i:Int)])++l).length:Int)=_;simp only[List.length_append,List.length_singleton];omega
    ·show(done++ [(i:Int)])++l=done++((i:Int)::l);simp
   |none=>
    refine Ev.neg ?_ (go (fun h=>by have:=h.2;rw[e]at this;simp at this));show¬((([]:List Int).length:Int)=_);rw[List.length_nil];omega
theorem akU(gs:List aZ)(sizes:List Int)(hg:gs.length≤1000)(hz:sizes.length≤100)(hs: ∀s ∈ sizes,-1≤s): ∀(ss done r:List Int),sizes.drop done.length=ss→done.length≤sizes.length→Fz (dH gs) done sizes→qn (dH gs) done sizes=r→(∀x ∈ r,x≤24+(done.length:Int))→Ev (fun k=>hU.f k gs sizes done) (KN done (fF ss r))
 | [],done,r,hd,OX,ho,hr,hx=>by
  have he:=jA hd OX;refine Ev.succ ?_;simp only[hU.f];refine Ev.pos (by omega) ((Ev.ret _).to ?_);simp[KN,fF]
 |s::ss,done,r,hd,OX,ho,hr,hx=>by
  obtain⟨q1,q2,q3⟩:=ja 0 hd;(have hrl:r.length=gs.length:=by rw[←hr,W5,C3]);have hsm:s ∈ sizes:=by
   (have:s ∈ sizes.drop done.length:=by rw[hd];exact List.mem_cons_self);exact List.mem_of_mem_drop this
  have hs1:=hs s hsm;refine Ev.succ ?_;simp only[hU.f];refine Ev.neg (by omega) ?_;refine akV gs sizes done hg hz s ss r hd ho hr (fun i hi h0=>?_) gs.length 0 (by omega) (fun j hj=>absurd hj (Nat.not_lt_zero _));have hxi:r.getD i 0≤24+(done.length:Int):=by
   rw[oG 0 (show i<r.length by omega)];exact hx _ (List.getElem_mem _)
  refine akU gs sizes hg hz hs ss (done++ [(i:Int)]) _ (by rw[List.length_append,List.length_singleton];exact q3) (by rw[List.length_append,List.length_singleton];omega) (aqo done sizes (dH gs) i s ss hd ho (by rw[C3];exact hi) (by rw[hr];exact h0) (by rw[hr];omega)) (by rw[aqL done sizes _ _ s ss hd,hr,Int.toNat_natCast]) (fun x hx'=>?_);rw[List.length_append,List.length_singleton];rcases List.mem_or_eq_of_mem_set hx' with h|h
  ·have:=hx x h;omega
  ·omega
end Go.Proofs.Ytbpjidekjogfeaa.A
