/- Used by the law FnPacking. -/
import Derived.Test.YtbpjidekjogfeaaZFnPackingx32
namespace Go.Proofs.Ytbpjidekjogfeaa.A
open Go.RowKit Go.Proofs.YtbpjidekjogfeaaW.cK Go.Proofs.YtbpjidekjogfeaaW.dP Go.Proofs.YtbpjidekjogfeaaW.eE
set_option linter.unusedVariables false
set_option linter.unusedSimpArgs false
def kZ(b:ai):Bool:=decide (b.f2=0)&& !b.f3
def fl(l:List ai):Int:=(l.map (fun b=>b.f1)).foldr (· + ·) 0
theorem nN:fl []=0:=rfl
theorem rz(b:ai)(l:List ai):fl (b::l)=b.f1+fl l:=rfl
theorem zU(a b:List ai):fl (a++b)=fl a+fl b:=by
 induction a with
 |nil=>simp[nN]
 |cons x a ih=>rw[List.cons_append,rz,rz,ih];omega
def je:Int→List ai→Int→Prop
 |lo,[],hi=>lo=hi
 |lo,b::bs,hi=>b.f0=lo∧1≤b.f1∧je (lo+b.f1) bs hi
theorem tR: ∀(bs:List ai) (lo hi:Int),je lo bs hi→lo+fl bs=hi∧lo+bs.length≤hi
 | [],lo,hi,h=>by simp only[je]at h;subst h;simp[nN]
 |b::bs,lo,hi,h=>by
  obtain⟨_,h1,h2⟩:=h;have:=tR bs _ _ h2;rw[rz,List.length_cons];omega
theorem C7: ∀(a b:List ai) (lo hi:Int),je lo (a++b) hi↔je lo a (lo+fl a)∧je (lo+fl a) b hi
 | [],b,lo,hi=>by simp[je,nN]
 |x::a,b,lo,hi=>by
  simp only[List.cons_append,je,rz];rw[C7 a b,show lo+(x.f1+fl a)=lo+x.f1+fl a by omega];constructor
  ·rintro⟨h1,h2,h3,h4⟩;exact⟨⟨h1,h2,h3⟩,h4⟩
  ·rintro⟨⟨h1,h2,h3⟩,h4⟩;exact⟨h1,h2,h3,h4⟩
theorem C8: ∀(bs:List ai) (lo hi:Int),je lo bs hi→ ∀b ∈ bs,lo≤b.f0∧1≤b.f1∧b.f0+b.f1≤hi
 | [],_,_,_,b,hb=>absurd hb (by simp)
 |x::bs,lo,hi,h,b,hb=>by
  obtain⟨h0,h1,h2⟩:=h;have h3:=tR bs _ _ h2;rcases List.mem_cons.mp hb with rfl|hb
  ·omega
  ·have:=C8 bs _ _ h2 b hb;omega
def Cut(fx:List Int):List ai→Prop
 | []=>True
 |b::_=>kZ b=false∨b.f0 ∈ fx
def jN:List ai→aZ
 | []=>⟨0,0,0⟩
 |b::bs=>⟨0,b.f0,fl (b::bs)⟩
def fZ(cur:List ai):List aZ:=if cur= []then[]else[jN cur]
def fV(fx:List Int):List ai→List ai→List aZ
 |cur,[]=>fZ cur
 |cur,b::bs=>if kZ b=true then(if cur≠ []∧b.f0 ∉ fx then fV fx (cur++ [b]) bs else fZ cur++fV fx [b] bs)else fZ cur++fV fx [] bs
def iM(fx:List Int)(bx:List ai):List aZ:=fV fx [] bx
def wY(pre cur bs:List ai):List (List ai×List ai×List ai):=if cur= []then[]else[(pre,cur,bs)]
def lR(fx:List Int):List ai→List ai→List ai→List (List ai×List ai×List ai)
 |pre,cur,[]=>wY pre cur []
 |pre,cur,b::bs=>if kZ b=true then(if cur≠ []∧b.f0 ∉ fx then lR fx pre (cur++ [b]) bs else wY pre cur (b::bs)++lR fx (pre++cur) [b] bs)else wY pre cur (b::bs)++lR fx (pre++cur++ [b]) [] bs
theorem abL(pre cur bs:List ai):(wY pre cur bs).map (fun d=>jN d.2.1)=fZ cur:=by
 unfold wY fZ;split<;>rfl
theorem D1(fx:List Int): ∀(bs pre cur:List ai),(lR fx pre cur bs).map (fun d=>jN d.2.1)=fV fx cur bs
 | [],pre,cur=>abL pre cur []
 |b::bs,pre,cur=>by
  simp only[lR,fV];split
  ·split
   ·exact D1 fx bs _ _
   ·rw[List.map_append,abL,D1 fx bs]
  ·rw[List.map_append,abL,D1 fx bs]
theorem azA(fx:List Int)(B cur:List ai)(h:Cut fx B):fV fx cur B=fZ cur++fV fx [] B:=by
 cases B with
 |nil=>simp[fV,fZ]
 |cons b B=>
  have e:fZ []= []:=rfl;simp only[fV];by_cases hb:kZ b=true
  ·have hf:b.f0 ∈ fx:=by
    rcases h with h|h
    ·rw[hb]at h;cases h
    ·exact h
   rw[if_pos hb,if_pos hb,if_neg (fun c=>c.2 hf),if_neg (fun c=>c.2 hf),e,List.nil_append]
  ·rw[if_neg hb,if_neg hb,e,List.nil_append]
theorem D5(fx:List Int)(B:List ai)(h:Cut fx B): ∀(A cur:List ai),fV fx cur (A++B)=fV fx cur A++fV fx [] B
 | [],cur=>azA fx B cur h
 |a::A,cur=>by
  simp only[List.cons_append,fV];split
  ·split
   ·exact D5 fx B h A _
   ·rw[D5 fx B h A,List.append_assoc]
  ·rw[D5 fx B h A,List.append_assoc]
def Shut(fx:List Int)(A:List ai):Prop:= ∀Z,fV fx [] (A++Z)=fV fx [] A++fV fx [] Z
def TE(fx:List Int)(A:List ai)(lo:Int):Prop:= ∀z Z,z.f0=lo→fV fx [] (A++z::Z)=fV fx [] A++fV fx [] (z::Z)
theorem aFr(fx:List Int):Shut fx []:=fun Z=>by simp[fV,fZ]
theorem aFs(fx:List Int)(A:List ai)(b:ai)(hb:kZ b=false):Shut fx (A++ [b]):=by
 intro Z;have hc: ∀Z,Cut fx (b::Z):=fun Z=>Or.inl hb;(have hb': ¬kZ b=true:=by rw[hb];simp);rw[List.append_assoc,show[b]++Z=b::Z from rfl,D5 fx (b::Z) (hc Z),D5 fx [b] (hc []),List.append_assoc];simp only[fV];rw[if_neg hb',if_neg hb'];simp[fZ]
theorem Shut.at{fx:List Int}{A:List ai}(h:Shut fx A)(lo:Int):TE fx A lo:=fun z Z _=>h (z::Z)
theorem aFq(fx:List Int)(A:List ai)(lo:Int)(h:lo ∈ fx):TE fx A lo:=fun z Z e=>D5 fx (z::Z) (Or.inr (by rw[e];exact h)) A []
def gu(R:List ai):Int:=(R.headD jf).f0
structure sY(fx:List Int)(bx A R B:List ai):Prop where
 all:A++R++B=bx
 ne:R≠ []
 opn: ∀b ∈ R,kZ b=true
 free: ∀b ∈ R.tail,b.f0 ∉ fx
 pre:TE fx A (gu R)
 post:Cut fx B
theorem aer{R:List ai}(h:R≠ [])(S:List ai):gu (R++S)=gu R:=by
 cases R with
 |nil=>exact absurd rfl h
 |cons x R=>rfl
theorem ayb(fx:List Int): ∀(bs pre cur:List ai),(cur= []→Shut fx pre)→(cur≠ []→TE fx pre (gu cur)∧(∀b ∈ cur,kZ b=true)∧ ∀b ∈ cur.tail,b.f0 ∉ fx)→
  ∀d ∈ lR fx pre cur bs,sY fx (pre++cur++bs) d.1 d.2.1 d.2.2:=by
 intro bs;induction bs with
 |nil=>
  intro pre cur h0 h1 d hd;simp only[lR,wY]at hd;split at hd
  ·simp at hd
  ·next hc=>
   simp only[List.mem_singleton]at hd;subst hd;exact⟨rfl,hc,(h1 hc).2.1,(h1 hc).2.2,(h1 hc).1,trivial⟩
 |cons b bs ih=>
  intro pre cur h0 h1 d hd;simp only[lR]at hd;have em: ∀(hC:Cut fx (b::bs)),d ∈ wY pre cur (b::bs)→sY fx (pre++cur++b::bs) d.1 d.2.1 d.2.2:=by
   intro hC he;simp only[wY]at he;split at he
   ·simp at he
   ·next hc=>
    simp only[List.mem_singleton]at he;subst he;exact⟨rfl,hc,(h1 hc).2.1,(h1 hc).2.2,(h1 hc).1,hC⟩
  by_cases hb:kZ b=true
  ·rw[if_pos hb]at hd;by_cases hc:cur≠ []∧b.f0 ∉ fx
   ·rw[if_pos hc]at hd;obtain⟨g1,g2,g3⟩:=h1 hc.1;have:=ih pre (cur++ [b]) (fun e=>by simp at e) (fun _=>⟨by rw[aer hc.1];exact g1,fun x hx=>by
     rcases List.mem_append.mp hx with hx|hx
     ·exact g2 x hx
     ·rw[List.mem_singleton.mp hx];exact hb,fun x hx=>by
     rw[List.tail_append_of_ne_nil hc.1]at hx;rcases List.mem_append.mp hx with hx|hx
     ·exact g3 x hx
     ·rw[List.mem_singleton.mp hx];exact hc.2⟩) d hd
    simpa using this
   ·rw[if_neg hc]at hd;rcases List.mem_append.mp hd with hd|hd
    ·by_cases si:cur= []
     ·subst si;simp[wY]at hd
     ·exact em (Or.inr (Classical.byContradiction fun e=>hc ⟨si,e⟩)) hd
    ·have:=ih (pre++cur) [b] (fun e=>by simp at e) (fun _=>⟨by
      by_cases si:cur= []
      ·subst si;rw[List.append_nil];exact(h0 rfl).at _
      ·exact aFq fx _ _ (Classical.byContradiction fun e=>hc ⟨si,e⟩),fun x hx=>by rw[List.mem_singleton.mp hx];exact hb,fun x hx=>by simp at hx⟩) d hd
     simpa using this
  ·rw[if_neg hb]at hd;(have hb':kZ b=false:=by simpa using hb);rcases List.mem_append.mp hd with hd|hd
   ·exact em (Or.inl hb') hd
   ·have:=ih (pre++cur++ [b]) [] (fun _=>aFs fx _ b hb') (fun e=>absurd rfl e) d hd;simpa using this
theorem N9(fx:List Int)(bx:List ai): ∀d ∈ lR fx [] [] bx,sY fx bx d.1 d.2.1 d.2.2:=by
 have:=ayb fx bx [] [] (fun _=>aFr fx) (fun e=>absurd rfl e);simpa using this
theorem ak4(fx:List Int): ∀(R cur:List ai),cur≠ []→(∀b ∈ R,kZ b=true)→(∀b ∈ R,b.f0 ∉ fx)→fV fx cur R= [jN (cur++R)]
 | [],cur,hc,_,_=>by simp only[fV,fZ];rw[if_neg hc,List.append_nil]
 |b::R,cur,hc,h1,h2=>by
  simp only[fV];rw[if_pos (h1 b (by simp)),if_pos ⟨hc,h2 b (by simp)⟩,ak4 fx R (cur++ [b]) (by simp) (fun x hx=>h1 x (by simp[hx])) (fun x hx=>h2 x (by simp[hx]))];simp
theorem aFk{fx:List Int}{bx A R B:List ai}(h:sY fx bx A R B):iM fx R= [jN R]:=by
 have h1:=h.ne;have h2:=h.opn;have h3:=h.free;cases R with
 |nil=>exact absurd rfl h1
 |cons r R=>
  unfold iM;simp only[fV];rw[if_pos (h2 r (by simp)),if_neg (fun c=>c.1 rfl),ak4 fx R [r] (by simp) (fun x hx=>h2 x (by simp[hx])) (fun x hx=>h3 x hx)];rfl
theorem afC{fx:List Int}{bx A R B:List ai}(h:sY fx bx A R B)(N:List ai)(hN:N≠ [])(hs:gu N=gu R∨Cut fx N):iM fx (A++N++B)=iM fx A++iM fx N++iM fx B:=by
 unfold iM;cases N with
 |nil=>exact absurd rfl hN
 |cons n N=>
  have h1:fV fx [] (A++(n::N))=fV fx [] A++fV fx [] (n::N):=by
   rcases hs with hs|hs
   ·exact h.pre n N hs
   ·exact D5 fx (n::N) hs A []
  rw[D5 fx B h.post,h1]
theorem aqS{fx:List Int}{bx A R B:List ai}(h:sY fx bx A R B):iM fx bx=iM fx A++ [jN R]++iM fx B:=by
 rw[←h.all,afC h R h.ne (Or.inl rfl),aFk h]
theorem Ow(fx:List Int): ∀(bs cur:List ai) (lo hi:Int),je lo bs hi→(cur≠ []→gu cur<lo)→(fV fx cur bs).Pairwise (fun a b=>a.f1<b.f1)∧ ∀g ∈ fV fx cur bs,(cur= []→lo≤g.f1)∧(cur≠ []→gu cur≤g.f1)
 | [],cur,lo,hi,_,hc=>by
  simp only[fV,fZ];split
  ·next e=>exact⟨List.Pairwise.nil,fun g hg=>absurd hg (by simp)⟩
  ·next e=>
   refine⟨by simp,fun g hg=>⟨fun c=>absurd c e,fun _=>?_⟩⟩;rw[List.mem_singleton.mp hg];cases cur with
   |nil=>exact absurd rfl e
   |cons x cur=>exact Int.le_refl _
 |b::bs,cur,lo,hi,ht,hc=>by
  obtain⟨e0,e1,e2⟩:=ht;simp only[fV];have em: ∀(L:List aZ),L.Pairwise (fun a b=>a.f1<b.f1)→(∀g ∈ L,lo≤g.f1)→(fZ cur++L).Pairwise (fun a b=>a.f1<b.f1)∧ ∀g ∈ fZ cur++L,(cur= []→lo≤g.f1)∧(cur≠ []→gu cur≤g.f1):=by
   intro L h1 h2;unfold fZ;by_cases e:cur= []
   ·rw[if_pos e,List.nil_append];exact⟨h1,fun g hg=>⟨fun _=>h2 g hg,fun c=>absurd e c⟩⟩
   ·have hl:=hc e;(have VB:(jN cur).f1=gu cur:=by cases cur with|nil=>exact absurd rfl e|cons x cur=>rfl);rw[if_neg e];refine⟨List.pairwise_append.mpr ⟨by simp,h1,fun a ha b hb=>?_⟩,fun g hg=>⟨fun c=>absurd c e,fun _=>?_⟩⟩
    ·rw[List.mem_singleton.mp ha,VB];have:=h2 b hb;omega
    ·rcases List.mem_append.mp hg with hg|hg
     ·rw[List.mem_singleton.mp hg,VB];exact Int.le_refl _
     ·have:=h2 g hg;omega
  split
  ·split
   ·next h=>
    have ih:=Ow fx bs (cur++ [b]) _ hi e2 (fun _=>by rw[aer h.1];have:=hc h.1;omega);refine⟨ih.1,fun g hg=>⟨fun c=>absurd c h.1,fun _=>?_⟩⟩;have:=(ih.2 g hg).2 (by simp)
    rwa [aer h.1]at this
   ·have ih:=Ow fx bs [b] _ hi e2 (fun _=>by show b.f0<_;omega);exact em _ ih.1 (fun g hg=>by have:=(ih.2 g hg).2 (by simp);show lo≤g.f1;have h2:gu [b]=b.f0:=rfl;omega)
  ·have ih:=Ow fx bs [] _ hi e2 (fun e=>absurd rfl e);exact em _ ih.1 (fun g hg=>by have:=(ih.2 g hg).1 rfl;omega)
def oF(lo sz:Int)(N bx:List ai):List ai:=bx.flatMap (fun b=>(if b.f0=lo then N else[])++(if b.f0<lo∨lo+sz≤b.f0 then[b]else[]))
theorem abU(lo sz:Int)(N:List ai): ∀(l:List ai),(∀b ∈ l,b.f0≠lo∧(b.f0<lo∨lo+sz≤b.f0))→oF lo sz N l=l
 | [],_=>rfl
 |b::l,h=>by
  have h1:=h b (by simp);have ih:=abU lo sz N l (fun x hx=>h x (by simp[hx]));unfold oF at ih⊢;rw[List.flatMap_cons,ih,if_neg h1.1,if_pos h1.2];rfl
theorem akQ(lo sz:Int)(N:List ai): ∀(l:List ai),(∀b ∈ l,lo<b.f0∧b.f0<lo+sz)→oF lo sz N l= []
 | [],_=>rfl
 |b::l,h=>by
  have h1:=h b (by simp);have ih:=akQ lo sz N l (fun x hx=>h x (by simp[hx]));unfold oF at ih⊢;rw[List.flatMap_cons,ih,if_neg (by omega),if_neg (by omega)];rfl
theorem azt{A R B:List ai}{lo hi:Int}(h:je lo (A++R++B) hi)(hR:R≠ [])(N:List ai):oF (gu R) (fl R) N (A++R++B)=A++N++B:=by
 rw[C7,C7]at h;obtain⟨⟨hA,hM⟩,hB⟩:=h;rw[zU]at hB;cases R with
 |nil=>exact absurd rfl hR
 |cons r R=>
  have er:gu (r::R)=r.f0:=rfl;obtain⟨m0,m1,m2⟩:=hM;have s:=tR _ _ _ m2;unfold oF;rw[List.flatMap_append,List.flatMap_append];have a1:=abU (gu (r::R)) (fl (r::R)) N A (fun b hb=>by have:=C8 _ _ _ hA b hb;rw[er];omega);have a2:=abU (gu (r::R)) (fl (r::R)) N B (fun b hb=>by have:=C8 _ _ _ hB b hb;rw[er,rz]at*;omega);have a3:=akQ (gu (r::R)) (fl (r::R)) N R (fun b hb=>by have:=C8 _ _ _ m2 b hb;rw[er,rz];omega);unfold oF at a1 a2 a3;rw[a1,a2,List.flatMap_cons,a3,if_pos er.symm,if_neg (by rw[er,rz];have:=tR _ _ _ m2;omega)];simp
def nL(ps:List Int):List ai→Prop
 | []=>True
 |b::bs=>(0≤b.f2∧b.f2≤999)∧ ¬(0<b.f2∧b.f2 ∈ ps)∧nL (b.f2::ps) bs
theorem TP: ∀(bs:List ai) (low:Int) (ps:List Int) (e:Int),0≤low→low≤24→(nW bs low ps=some e↔je low bs e∧e≤24∧nL ps bs)
 | [],low,ps,e,h0,h=>by
  simp only[nW,je,nL,Option.some.injEq];constructor
  ·rintro rfl;exact⟨rfl,h,trivial⟩
  ·rintro⟨h,_⟩;exact h
 |b::bs,low,ps,e,hn,h=>by
  simp only[nW,je,nL];constructor
  ·intro hs;split at hs
   ·next hc=>
    obtain⟨h1,h2,h3⟩:=(TP bs _ _ e (by omega) hc.2.2.2.2).mp hs;exact⟨⟨hc.1,hc.2.1.1,h1⟩,h2,hc.2.2.1,hc.2.2.2.1,h3⟩
   ·cases hs
  ·rintro⟨⟨h0,h1,h2⟩,h3,h4,h5,h6⟩;have hs:=tR _ _ _ h2;rw[if_pos ⟨h0,⟨h1,by omega⟩,h4,h5,by omega⟩];exact(TP bs _ _ e (by omega) (by omega)).mpr ⟨h2,h3,h6⟩
structure jU(h:Int)(fx:List Int)(bx:List ai):Prop where
 hi:1≤h∧h≤24
 l5:je 0 bx h
 par:nL [] bx
 fix:mS h none fx=true
 low: ∀f ∈ fx,∃b ∈ bx,b.f0=f
theorem qd(h:Int)(fx:List Int)(bx:List ai):hO h fx bx=true↔jU h fx bx:=by
 rw[←akq];constructor
 ·intro e;simp only[Bool.and_eq_true,decide_eq_true_eq]at e;obtain⟨e1,e2,e3,e4⟩:=e;cases hS:nW bx 0 []with
  |none=>rw[hS]at e2;simp[vD]at e2
  |some x=>
   rw[hS]at e2;simp only[vD,Bool.and_eq_true,decide_eq_true_eq]at e2;obtain⟨_,rfl⟩:=e2;obtain⟨t1,t2,t3⟩:=(TP bx 0 [] x (by omega) (by omega)).mp hS;refine⟨e1,t1,t3,e3,fun f hf=>?_⟩;have:=List.all_eq_true.mp e4 f hf;simp only[decide_eq_true_eq,List.mem_map]at this;exact this
 ·intro v;have hS:=(TP bx 0 [] h (by omega) (by omega)).mpr ⟨v.l5,v.hi.2,v.par⟩;have hne:bx≠ []:=by
   intro e;have:=v.l5;rw[e]at this;simp only[je]at this;have:=v.hi;omega
  simp only[Bool.and_eq_true,decide_eq_true_eq];refine⟨v.hi,?_,v.fix,?_⟩
  ·rw[hS];simp[vD,hne]
  ·exact List.all_eq_true.mpr (fun f hf=>by simp only[decide_eq_true_eq,List.mem_map];exact v.low f hf)
theorem jU.len{h:Int}{fx:List Int}{bx:List ai}(v:jU h fx bx):bx.length≤24:=by
 have:=tR _ _ _ v.l5;have:=v.hi;omega
theorem jU.mem{h:Int}{fx:List Int}{bx:List ai}(v:jU h fx bx){b:ai}(hb:b ∈ bx):0≤b.f0∧1≤b.f1∧b.f0+b.f1≤24:=by
 have:=C8 _ _ _ v.l5 b hb;have:=v.hi;omega
theorem ae1: ∀(bs:List ai) (ps:List Int),nL ps bs↔(∀b ∈ bs,0≤b.f2∧b.f2≤999)∧(∀b ∈ bs,0<b.f2→b.f2 ∉ ps)∧bs.Pairwise (fun a b=>0<b.f2→a.f2≠b.f2)
 | [],ps=>by simp[nL]
 |b::bs,ps=>by
  simp only[nL];rw[ae1 bs];constructor
  ·rintro⟨h1,h2,h3,h4,h5⟩;refine⟨fun x hx=>?_,fun x hx h0=>?_,List.pairwise_cons.mpr ⟨fun x hx h0 e=>h4 x hx h0 (by rw[←e];simp),h5⟩⟩
   ·rcases List.mem_cons.mp hx with rfl|hx
    ·exact h1
    ·exact h3 x hx
   ·rcases List.mem_cons.mp hx with rfl|hx
    ·exact fun hm=>h2 ⟨h0,hm⟩
    ·exact fun hm=>h4 x hx h0 (by simp[hm])
  ·rintro⟨h1,h2,h3⟩;obtain⟨h4,h5⟩:=List.pairwise_cons.mp h3;refine⟨h1 b (by simp),fun h=>h2 b (by simp) h.1 h.2,fun x hx=>h1 x (by simp[hx]),fun x hx h0 hm=>?_,h5⟩;rcases List.mem_cons.mp hm with e|hm
   ·exact h4 x hx h0 e.symm
   ·exact h2 x (by simp[hx]) h0 hm
def q8(size:Int):Option aZ→List aZ→Option aZ
 |best,[]=>best
 |best,g::l=>if size≤g.f2∧(∀b ∈ best,g.f2<b.f2)then q8 size (some g) l else q8 size best l
def qm(size:Int)(l:List aZ):Option aZ:=if size<1 then none else q8 size none l
theorem aeq(size:Int): ∀(l:List aZ) (b:aZ),size≤b.f2→
  (q8 size (some b) l=some b∧ ∀x ∈ l,x.f2<size∨b.f2≤x.f2)∨ ∃l1 g l2,l=l1++g::l2∧q8 size (some b) l=some g∧size≤g.f2∧g.f2<b.f2∧(∀x ∈ l1,x.f2<size∨g.f2<x.f2)∧ ∀x ∈ l2,x.f2<size∨g.f2≤x.f2
 | [],b,hb=>Or.inl ⟨rfl,by simp⟩
 |y::l,b,hb=>by
  simp only[q8,Option.mem_def,Option.some.injEq,forall_eq'];by_cases c:size≤y.f2∧y.f2<b.f2
  ·rw[if_pos c];right;rcases aeq size l y c.1 with⟨h1,h2⟩|⟨l1,g,l2,h0,h1,h2,h3,h4,h5⟩
   ·exact⟨[],y,l,rfl,h1,c.1,c.2,by simp,h2⟩
   ·exact⟨y::l1,g,l2,by rw[h0];rfl,h1,h2,by omega,fun x hx=>by
     rcases List.mem_cons.mp hx with rfl|hx
     ·exact Or.inr h3
     ·exact h4 x hx,h5⟩
  ·rw[if_neg c];rcases aeq size l b hb with⟨h1,h2⟩|⟨l1,g,l2,h0,h1,h2,h3,h4,h5⟩
   ·left;exact⟨h1,fun x hx=>by
     rcases List.mem_cons.mp hx with rfl|hx
     ·omega
     ·exact h2 x hx⟩
   ·right;exact⟨y::l1,g,l2,by rw[h0];rfl,h1,h2,h3,fun x hx=>by
     rcases List.mem_cons.mp hx with rfl|hx
     ·omega
     ·exact h4 x hx,h5⟩
theorem RI(size:Int): ∀(l:List aZ),
  (q8 size none l=none∧ ∀x ∈ l,x.f2<size)∨ ∃l1 g l2,l=l1++g::l2∧q8 size none l=some g∧size≤g.f2∧(∀x ∈ l1,x.f2<size∨g.f2<x.f2)∧ ∀x ∈ l2,x.f2<size∨g.f2≤x.f2
 | []=>Or.inl ⟨rfl,by simp⟩
 |y::l=>by
  simp only[q8];by_cases c:size≤y.f2
  ·rw[if_pos ⟨c,fun b hb=>by cases hb⟩];right;rcases aeq size l y c with⟨h1,h2⟩|⟨l1,g,l2,h0,h1,h2,h3,h4,h5⟩
   ·exact⟨[],y,l,rfl,h1,c,by simp,h2⟩
   ·exact⟨y::l1,g,l2,by rw[h0];rfl,h1,h2,fun x hx=>by
     rcases List.mem_cons.mp hx with rfl|hx
     ·exact Or.inr h3
     ·exact h4 x hx,h5⟩
  ·rw[if_neg (fun h=>c h.1)];rcases RI size l with⟨h1,h2⟩|⟨l1,g,l2,h0,h1,h2,h4,h5⟩
   ·left;exact⟨h1,fun x hx=>by
     rcases List.mem_cons.mp hx with rfl|hx
     ·omega
     ·exact h2 x hx⟩
   ·right;exact⟨y::l1,g,l2,by rw[h0];rfl,h1,h2,fun x hx=>by
     rcases List.mem_cons.mp hx with rfl|hx
     ·omega
     ·exact h4 x hx,h5⟩
theorem aEe{size:Int}{l:List aZ}{g:aZ}(h:qm size l=some g):g ∈ l∧size≤g.f2∧1≤size∧ ∀x ∈ l,size≤x.f2→g.f2≤x.f2:=by
 unfold qm at h;split at h
 ·cases h
 ·rcases RI size l with⟨h1,h2⟩|⟨l1,y,l2,h0,h1,h2,h4,h5⟩
  ·rw[h1]at h;cases h
  ·rw[h1]at h;obtain rfl:=Option.some.inj h;refine⟨by rw[h0];simp,h2,by omega,fun x hx hs=>?_⟩;rw[h0]at hx;rcases List.mem_append.mp hx with hx|hx
   ·have:=h4 x hx;omega
   ·rcases List.mem_cons.mp hx with rfl|hx
    ·exact Int.le_refl _
    ·have:=h5 x hx;omega
theorem axX(l:List Int)(hl:l.length≤4398046511103):Ev (fun _=>EC.f l) l:=Ev.const (by
 unfold EC.f;simp only[Option.bind_some,List.length_nil,List.nil_append,Nat.zero_add];rw[if_pos (by omega)])
theorem axW(l:List ai)(hl:l.length≤4398046511103):Ev (fun _=>En.f l) l:=Ev.const (by
 unfold En.f;simp only[Option.bind_some,List.length_nil,List.nil_append,Nat.zero_add];rw[if_pos (by omega)])
theorem akv(h:Int)(fx:List Int)(bx:List ai)(hf:fx.length≤4398046511103)(hb:bx.length≤4398046511103):Ev (fun _=>qi.f h fx bx) (h,fx,bx):=by
 unfold qi.f;exact Ev.bind (axX fx hf) (Ev.bind (axW bx hb) (Ev.ret _))
theorem aa2(h:Int)(fx:List Int)(bx:List ai)(hf:fx.length≤4398046511103)(hb:bx.length≤4398046511103):Ev (fun _=>nB.f h fx bx) (h,fx,bx):=Ev.const (by
 unfold nB.f;simp only[Option.bind_some,List.length_nil,List.nil_append,Nat.zero_add];rw[if_pos (by omega),if_pos (by omega)])
theorem apN: ∀(l:List ai) (p i:Int),0≤i→(ki l p i= -1∧ ∀b ∈ l,b.f2≠p)∨ ∃l1 b l2,l=l1++b::l2∧b.f2=p∧(∀x ∈ l1,x.f2≠p)∧ki l p i=i+l1.length
 | [],p,i,_=>Or.inl ⟨rfl,by simp⟩
 |b::l,p,i,hi=>by
  simp only[ki];by_cases c:b.f2=p
  ·rw[if_pos c];exact Or.inr ⟨[],b,l,rfl,c,by simp,by simp⟩
  ·rw[if_neg c];rcases apN l p (i+1) (by omega)with⟨h1,h2⟩|⟨l1,x,l2,h1,h2,h3,h4⟩
   ·exact Or.inl ⟨h1,fun y hy=>by
     rcases List.mem_cons.mp hy with rfl|hy
     ·exact c
     ·exact h2 y hy⟩
   ·refine Or.inr ⟨b::l1,x,l2,by rw[h1];rfl,h2,fun y hy=>?_,by rw[h4,List.length_cons];omega⟩;rcases List.mem_cons.mp hy with rfl|hy
    ·exact c
    ·exact h3 y hy
theorem aen(l:List ai)(p:Int):(ki l p 0= -1∧ ∀b ∈ l,b.f2≠p)∨ ∃l1 b l2,l=l1++b::l2∧b.f2=p∧(∀x ∈ l1,x.f2≠p)∧ki l p 0=l1.length:=by
 rcases apN l p 0 (Int.le_refl _)with h|⟨l1,b,l2,h1,h2,h3,h4⟩
 ·exact Or.inl h
 ·exact Or.inr ⟨l1,b,l2,h1,h2,h3,by rw[h4];omega⟩
def tc(l:List ai)(p:Int):Int:=if 0<p then ki l p 0 else-1
theorem ajY(h:Int)(fx:List Int)(bx:List ai)(hl:bx.length≤1048576)(p:Int): ∀(rest:List ai) (i:Nat),bx.drop i=rest→i≤bx.length→Ev (fun k=>mV.l0 k p (i:Int) h fx bx) (if 0<p then ki rest p (i:Int)else-1)
 | [],i,hd,hi=>by
  have he:=jA hd hi;refine Ev.succ ?_;simp only[mV.l0];refine Ev.neg (by omega) ?_;refine Ev.to (Ev.ret _) ?_;simp[ki]
 |b::rest,i,hd,hi=>by
  obtain⟨h1,h2,h3⟩:=ja jf hd;have er:ah bx (i:Int)=b:=h2;have ih:=ajY h fx bx hl p rest (i+1) h3 (by omega);refine Ev.succ ?_;simp only[mV.l0,er];refine Ev.pos (by omega) ?_;refine Ev.pos (by omega) ?_;rw[fY i (by omega)];by_cases c:b.f2=p
  ·refine Ev.pos c ?_;by_cases d:p>0
   ·refine Ev.pos d (Ev.to (Ev.ret _) ?_);rw[if_pos d];simp only[ki];rw[if_pos c]
   ·refine Ev.neg d (Ev.to ih ?_);rw[if_neg d,if_neg d]
  ·refine Ev.neg c (Ev.to ih ?_);simp only[ki];rw[if_neg c];rfl
theorem aal(h:Int)(fx:List Int)(bx:List ai)(hl:bx.length≤1048576)(p:Int):Ev (fun k=>mV.f k h fx bx p) (tc bx p):=by
 unfold mV.f;exact ajY h fx bx hl p bx 0 rfl (by omega)
def C6(h:Int)(fx:List Int)(bx:List ai)(p:Int):List ai×Bool:=
 if hO h fx bx=true∧0<p∧0≤ki bx p 0∧(ah bx (ki bx p 0)).f3=false then(bx.set (ki bx p 0).toNat ⟨(ah bx (ki bx p 0)).f0,(ah bx (ki bx p 0)).f1,0,(ah bx (ki bx p 0)).f3⟩,true)else(bx,false)
theorem aD5(l:List ai)(p:Int):ki l p 0<l.length:=by
 rcases aen l p with⟨h,_⟩|⟨l1,b,l2,h1,_,_,h4⟩
 ·rw[h];omega
 ·rw[h4,h1];simp;omega
theorem Sw{h:Int}{fx:List Int}{bx:List ai}{p:Int}(c: ¬(hO h fx bx=true∧0<p∧0≤ki bx p 0∧(ah bx (ki bx p 0)).f3=false)):C6 h fx bx p=(bx,false):=by
 unfold C6;rw[if_neg c]
theorem arH{h:Int}{fx:List Int}{bx:List ai}{p:Int}(c:hO h fx bx=true∧0<p∧0≤ki bx p 0∧(ah bx (ki bx p 0)).f3=false):C6 h fx bx p=(bx.set (ki bx p 0).toNat ⟨(ah bx (ki bx p 0)).f0,(ah bx (ki bx p 0)).f1,0,(ah bx (ki bx p 0)).f3⟩,true):=by
 unfold C6;rw[if_pos c]
theorem aGb(h:Int)(fx:List Int)(bx:List ai)(hf:fx.length≤1048576)(hb:bx.length≤1048576)(p:Int):Ev (fun k=>LL.f k h fx bx p) (h,fx,C6 h fx bx p):=by
 unfold LL.f;refine Ev.bind (aa2 h fx bx (by omega) (by omega)) ?_;refine Ev.bind (aal h fx bx hb p) ?_;refine Ev.bind (KG h fx (by omega) bx (by omega)) ?_;dsimp only;have hi:=aD5 bx p;by_cases c1:hO h fx bx=true
 ·refine Ev.pos c1 ?_;by_cases c2:p<1
  ·rw[Sw (by omega)];(have e:tc bx p= -1:=by unfold tc;rw[if_neg (by omega)]);rw[e];exact Ev.pos (by omega) (Ev.ret _)
  ·(have e:tc bx p=ki bx p 0:=by unfold tc;rw[if_pos (by omega)]);rw[e];by_cases c3:ki bx p 0<0
   ·rw[Sw (by omega)];exact Ev.pos c3 (Ev.ret _)
   ·refine Ev.neg c3 (Ev.pos (by omega) (Ev.pos hi ?_));cases c4:(ah bx (ki bx p 0)).f3 with
    |true=>
     rw[Sw (fun e=>by rw[c4]at e;simp at e)];exact Ev.pos rfl (Ev.ret _)
    |false=>
     rw[arH ⟨c1,by omega,by omega,c4⟩,c4];exact Ev.neg (by simp) (Ev.pos hi (Ev.ret _))
 ·rw[Sw (fun e=>c1 e.1)];exact Ev.neg c1 (Ev.ret _)
def CQ(unit:Int)(j:Bool):List ai→List ai×Bool
 | []=>([],false)
 |b::l=>if b.f0≤unit∧unit<b.f0+b.f1 then(⟨b.f0,b.f1,b.f2,j⟩::l,true)else(b::(CQ unit j l).1,(CQ unit j l).2)
def Eo(h:Int)(fx:List Int)(bx:List ai)(unit:Int)(j:Bool):List ai×Bool:=if hO h fx bx=true then CQ unit j bx else(bx,false)
theorem aFp{α:Type}(l:List α)(i:Nat)(h:i<l.length)(v:α):l.set i v=l.take i++v::l.drop (i+1):=by
 rw[List.set_eq_take_append_cons_drop,if_pos h]
theorem aGd{α:Type}(l:List α)(i:Nat)(h:i<l.length)(d:α):l.take i++ [l.getD i d]=l.take (i+1):=by
 rw[List.take_add_one,List.getD_eq_getElem?_getD,List.getElem?_eq_getElem h];rfl
theorem apU(h:Int)(fx:List Int)(hx:fx.length≤1048576)(bx:List ai)(hl:bx.length≤24)(hm: ∀b ∈ bx,0≤b.f0∧1≤b.f1∧b.f0+b.f1≤24)(hc:hO h fx bx=true)(unit:Int)(j:Bool):
  ∀(rest:List ai) (i:Nat),bx.drop i=rest→i≤bx.length→Ev (fun k=>lH.l0 k unit j (i:Int) h fx bx h fx bx) (h,fx,bx.take i++(CQ unit j rest).1,(CQ unit j rest).2)
 | [],i,hd,hi=>by
  have he:=jA hd hi;refine Ev.succ ?_;simp only[lH.l0];refine Ev.neg (by omega) ?_;refine Ev.succ ?_;simp only[lH.j1];refine Ev.neg (by simp) ?_;refine Ev.to (Ev.ret _) ?_;subst he;simp[CQ]
 |b::rest,i,hd,hi=>by
  obtain⟨h1,h2,h3⟩:=ja jf hd;have er:ah bx (i:Int)=b:=h2;(have hb:b ∈ bx:=by rw[←h2,oG _ h1];exact List.getElem_mem _);have hbb:=hm b hb;have ih:=apU h fx hx bx hl hm hc unit j rest (i+1) h3 (by omega);refine Ev.succ ?_;simp only[lH.l0];refine Ev.pos (by omega) ?_;refine Ev.bind (KG h fx (by omega) bx (by omega)) ?_;rw[hc];refine Ev.succ ?_;simp only[lH.j1,er,CQ];rw[wid (b.f0+b.f1) (by omega) (by omega),wid (b.f0+b.f1-1) (by omega) (by omega),fY i (by omega)];refine Ev.pos (by trivial) (Ev.pos (by omega) (Ev.pos (by omega) ?_));refine Ev.bind (Ev.const (Lt _ _ _)) ?_;by_cases c:b.f0≤unit∧unit≤b.f0+b.f1-1
  ·refine Ev.pos (decide_eq_true c) (Ev.pos (by omega) (Ev.to (Ev.ret _) ?_));rw[if_pos (by omega)];show(h,fx,bx.set (i:Int).toNat _,true)=_;rw[Int.toNat_natCast,aFp bx i h1,h3]
  ·refine Ev.neg (by simpa using c) (Ev.to ih ?_);rw[if_neg (by omega),←aGd bx i h1 jf,h2];simp
theorem aD8(h:Int)(fx:List Int)(bx:List ai)(hf:fx.length≤1048576)(hb:bx.length≤1048576)(unit:Int)(j:Bool):Ev (fun k=>lH.f k h fx bx unit j) (h,fx,Eo h fx bx unit j):=by
 unfold lH.f Eo;refine Ev.bind (aa2 h fx bx (by omega) (by omega)) ?_;dsimp only;by_cases c1:hO h fx bx=true
 ·rw[if_pos c1];have v:=(qd h fx bx).mp c1;exact(apU h fx hf bx v.len (fun b hb=>v.mem hb) c1 unit j bx 0 rfl (by omega)).to (by simp)
 ·rw[if_neg c1];(have c2:hO h fx bx=false:=by simpa using c1);refine Ev.succ ?_;simp only[lH.l0];have fin:Ev (fun k=>lH.j1 k unit j 0 false h fx bx h fx bx) (h,fx,bx,false):=by
   refine Ev.succ ?_;simp only[lH.j1];exact Ev.neg (by simp) (Ev.ret _)
  by_cases c:(0:Int)<bx.length
  ·refine Ev.pos c ?_;refine Ev.bind (KG h fx (by omega) bx (by omega)) ?_;rw[c2];exact fin
  ·refine Ev.neg c ?_;exact fin
def Small(cs:List br):Prop:=cs.length≤1048576∧ ∀c ∈ cs,c.f1.length≤1048576∧c.f2.length≤1048576
def Uk(c d:br):Bool:=d.f2.all (fun b=>decide (tc c.f2 b.f2<0))
def DQ:List br→List br→Bool
 |_,[]=>true
 |pre,c::rest=>hO c.f0 c.f1 c.f2 &&(pre.all (fun p=>Uk p c)&& DQ (pre++ [c]) rest)
theorem ajG(cs:List br)(hs:Small cs)(i j:Nat)(hi:i<cs.length)(hj:j<i)(r:Bool)(hr:Ev (fun k=>eK.l1 k cs (i:Int) ((j+1:Nat):Int)) r):
  ∀(rest:List ai) (n:Nat),(cs.getD i lJ).f2.drop n=rest→n≤(cs.getD i lJ).f2.length→Ev (fun k=>eK.l2 k cs (i:Int) (j:Int) (n:Int)) (rest.all (fun b=>decide (tc (cs.getD j lJ).f2 b.f2<0))&& r)
 | [],n,hd,hn=>by
  have he:=jA hd hn;have er:aN cs (i:Int)=cs.getD i lJ:=rfl;have hl:=hs.1;refine Ev.succ ?_;simp only[eK.l2,er];refine Ev.pos (by omega) (Ev.pos (by omega) (Ev.neg (by omega) ?_));rw[fY j (by omega)];exact hr
 |b::rest,n,hd,hn=>by
  obtain⟨h1,h2,h3⟩:=ja jf hd;have er:aN cs (i:Int)=cs.getD i lJ:=rfl;have Gg:aN cs (j:Int)=cs.getD j lJ:=rfl;have eb:ah (cs.getD i lJ).f2 (n:Int)=b:=h2;have hl:=hs.1;(have hmem:cs.getD i lJ ∈ cs:=by rw[oG _ hi];exact List.getElem_mem _);(have aCE:cs.getD j lJ ∈ cs:=by rw[oG _ (show j<cs.length by omega)];exact List.getElem_mem _);have hl2:=(hs.2 _ hmem).2;have hl3:=(hs.2 _ aCE).2;have ih:=ajG cs hs i j hi hj r hr rest (n+1) h3 (by omega);refine Ev.succ ?_;simp only[eK.l2,er,Gg,eb,List.all_cons];refine Ev.pos (by omega) (Ev.pos (by omega) (Ev.pos (by omega) (Ev.pos (by omega) (Ev.pos (by omega) (Ev.pos (by omega) ?_)))));refine Ev.bind (aal _ _ _ hl3 _) ?_;rw[fY n (by omega)];by_cases c:tc (cs.getD j lJ).f2 b.f2<0
  ·refine Ev.neg (by omega) ?_;rw[decide_eq_true c,Bool.true_and];exact ih
  ·refine Ev.pos (by omega) ?_;rw[decide_eq_false c,Bool.false_and,Bool.false_and];exact Ev.ret _
theorem ajF(cs:List br)(hs:Small cs)(i:Nat)(hi:i<cs.length)(r:Bool)(hr:Ev (fun k=>eK.l0 k cs ((i+1:Nat):Int)) r):
  ∀(d j:Nat),j+d=i→Ev (fun k=>eK.l1 k cs (i:Int) (j:Int)) (((cs.take i).drop j).all (fun p=>Uk p (cs.getD i lJ))&& r)
 |0,j,hj=>by
  have hl:=hs.1;refine Ev.succ ?_;simp only[eK.l1];refine Ev.neg (by omega) ?_;rw[fY i (by omega),List.drop_eq_nil_of_le (by rw[List.length_take];omega),List.all_nil,Bool.true_and];exact hr
 |d+1,j,hj=>by
  have hl:=hs.1;have ih:=ajF cs hs i hi r hr d (j+1) (by omega);have h2:=ajG cs hs i j hi (by omega) _ ih (cs.getD i lJ).f2 0 rfl (by omega);refine Ev.succ ?_;simp only[eK.l1];refine Ev.pos (by omega) (h2.to ?_);have e:(cs.take i).drop j=cs.getD j lJ::(cs.take i).drop (j+1):=by
   (have hj2:j<(cs.take i).length:=by rw[List.length_take];omega);rw[drop_cons _ lJ j hj2,List.getD_eq_getElem?_getD,List.getElem?_take_of_lt (by omega),←List.getD_eq_getElem?_getD]
  rw[e,List.all_cons,Bool.and_assoc];rfl
theorem ajE(cs:List br)(hs:Small cs): ∀(rest:List br) (i:Nat),cs.drop i=rest→i≤cs.length→Ev (fun k=>eK.l0 k cs (i:Int)) (DQ (cs.take i) rest)
 | [],i,hd,hi=>by
  have he:=jA hd hi;refine Ev.succ ?_;simp only[eK.l0,DQ];exact Ev.neg (by omega) (Ev.ret _)
 |c::rest,i,hd,hi=>by
  obtain⟨h1,h2,h3⟩:=ja lJ hd;have er:aN cs (i:Int)=c:=h2;(have hc:c ∈ cs:=by rw[←h2,oG _ h1];exact List.getElem_mem _);have hcs:=hs.2 c hc;have ih:=ajE cs hs rest (i+1) h3 (by omega);have hi1:=ajF cs hs i h1 _ ih i 0 (by omega);refine Ev.succ ?_;simp only[eK.l0,er,DQ];refine Ev.pos (by omega) (Ev.pos (by omega) (Ev.bind (KG _ _ (by omega) _ (by omega)) ?_));have et:cs.take (i+1)=cs.take i++ [c]:=by
   rw[List.take_add_one,←h2,List.getD_eq_getElem?_getD,List.getElem?_eq_getElem h1];rfl
  by_cases d:hO c.f0 c.f1 c.f2=true
  ·refine Ev.pos d (hi1.to ?_);rw[d,Bool.true_and,List.drop_zero,h2,et]
  ·refine Ev.neg d ((Ev.ret _).to ?_);(have:hO c.f0 c.f1 c.f2=false:=by simpa using d);rw[this,Bool.false_and]
def KH(c d:br):Prop:= ∀a ∈ c.f2,∀b ∈ d.f2,0<b.f2→a.f2≠b.f2
theorem aaj(l:List ai)(p:Int):tc l p<0↔(0<p→ ∀a ∈ l,a.f2≠p):=by
 unfold tc;by_cases h:0<p
 ·rw[if_pos h];rcases aen l p with⟨h1,h2⟩|⟨l1,b,l2,h1,h2,h3,h4⟩
  ·rw[h1];exact⟨fun _ _=>h2,fun _=>by omega⟩
  ·rw[h4];constructor
   ·intro c;omega
   ·intro c;exact absurd h2 (c h b (by rw[h1];simp))
 ·rw[if_neg h];exact⟨fun _ c=>absurd c h,fun _=>by omega⟩
theorem akw(c d:br):Uk c d=true↔KH c d:=by
 unfold Uk KH;rw[List.all_eq_true];constructor
 ·intro h a ha b hb h0;have:=of_decide_eq_true (h b hb);exact(aaj _ _).mp this h0 a ha
 ·intro h b hb;exact decide_eq_true ((aaj _ _).mpr (fun h0 a ha=>h a ha b hb h0))
theorem ajN: ∀(rest pre:List br),DQ pre rest=true↔(∀c ∈ rest,hO c.f0 c.f1 c.f2=true)∧(∀p ∈ pre,∀c ∈ rest,KH p c)∧rest.Pairwise KH
 | [],pre=>by simp[DQ]
 |c::rest,pre=>by
  simp only[DQ,Bool.and_eq_true];rw[ajN rest,List.all_eq_true];constructor
  ·rintro⟨h1,h2,h3,h4,h5⟩;refine⟨fun d hd=>?_,fun p hp d hd=>?_,List.pairwise_cons.mpr ⟨fun d hd=>h4 c (by simp) d hd,h5⟩⟩
   ·rcases List.mem_cons.mp hd with rfl|hd
    ·exact h1
    ·exact h3 d hd
   ·rcases List.mem_cons.mp hd with rfl|hd
    ·exact(akw _ _).mp (h2 p hp)
    ·exact h4 p (by simp[hp]) d hd
  ·rintro⟨h1,h2,h3⟩;obtain⟨h4,h5⟩:=List.pairwise_cons.mp h3;refine⟨h1 c (by simp),fun p hp=>(akw _ _).mpr (h2 p hp c (by simp)),fun d hd=>h1 d (by simp[hd]),fun p hp d hd=>?_,h5⟩;rcases List.mem_append.mp hp with hp|hp
   ·exact h2 p hp d (by simp[hd])
   ·rw[List.mem_singleton.mp hp];exact h4 d hd
theorem aqv: ∀(bs:List ai) (ps:List Int),bs.Pairwise (fun a b=>0<b.f2→a.f2≠b.f2)→
  ((∀b ∈ bs,0<b.f2→b.f2 ∉ ps)∧ ∃qs,sq bs ps=some qs∧ ∀x,x ∈ qs↔x ∈ ps∨ ∃b ∈ bs,b.f2=x)∨(¬(∀b ∈ bs,0<b.f2→b.f2 ∉ ps)∧sq bs ps=none)
 | [],ps,_=>Or.inl ⟨by simp,ps,rfl,by simp⟩
 |b::bs,ps,hp=>by
  obtain⟨h1,h2⟩:=List.pairwise_cons.mp hp;simp only[sq];by_cases c:0<b.f2∧b.f2 ∈ ps
  ·rw[if_pos c];exact Or.inr ⟨fun h=>h b (by simp) c.1 c.2,rfl⟩
  ·rw[if_neg c];rcases aqv bs (b.f2::ps) h2 with⟨h3,qs,h4,h5⟩|⟨h3,h4⟩
   ·refine Or.inl ⟨fun x hx h0=>?_,qs,h4,fun x=>?_⟩
    ·rcases List.mem_cons.mp hx with rfl|hx
     ·exact fun h=>c ⟨h0,h⟩
     ·exact fun h=>h3 x hx h0 (by simp[h])
    ·rw[h5 x,List.mem_cons];constructor
     ·rintro((h|h)|⟨y,hy,e⟩)
      ·exact Or.inr ⟨b,by simp,h.symm⟩
      ·exact Or.inl h
      ·exact Or.inr ⟨y,by simp[hy],e⟩
     ·rintro(h|⟨y,hy,e⟩)
      ·exact Or.inl (Or.inr h)
      ·rcases List.mem_cons.mp hy with rfl|hy
       ·exact Or.inl (Or.inl e.symm)
       ·exact Or.inr ⟨y,hy,e⟩
   ·refine Or.inr ⟨fun h=>h3 (fun x hx h0 hm=>?_),h4⟩;rcases List.mem_cons.mp hm with e|hm
    ·exact h1 x hx h0 e.symm
    ·exact h x (by simp[hx]) h0 hm
theorem aaf: ∀(cs:List br) (ps:List Int),wU cs ps=true↔(∀c ∈ cs,hO c.f0 c.f1 c.f2=true)∧(∀c ∈ cs,∀b ∈ c.f2,0<b.f2→b.f2 ∉ ps)∧cs.Pairwise KH
 | [],ps=>by simp[wU]
 |c::cs,ps=>by
  simp only[wU,Bool.and_eq_true];by_cases hc:hO c.f0 c.f1 c.f2=true
  ·have v:=(qd _ _ _).mp hc;rcases aqv c.f2 ps ((ae1 _ _).mp v.par).2.2 with⟨h3,qs,h4,h5⟩|⟨h3,h4⟩
   ·rw[h4];dsimp only;rw[aaf cs qs];constructor
    ·rintro⟨_,g1,g2,g3⟩;refine⟨fun d hd=>?_,fun d hd b hb h0=>?_,List.pairwise_cons.mpr ⟨fun d hd a ha b hb h0 e=>g2 d hd b hb h0 ((h5 _).mpr (Or.inr ⟨a,ha,e⟩)),g3⟩⟩
     ·rcases List.mem_cons.mp hd with rfl|hd
      ·exact hc
      ·exact g1 d hd
     ·rcases List.mem_cons.mp hd with rfl|hd
      ·exact h3 b hb h0
      ·exact fun h=>g2 d hd b hb h0 ((h5 _).mpr (Or.inl h))
    ·rintro⟨g1,g2,g3⟩;obtain⟨g4,g5⟩:=List.pairwise_cons.mp g3;refine⟨hc,fun d hd=>g1 d (by simp[hd]),fun d hd b hb h0 h=>?_,g5⟩;rcases(h5 _).mp h with h|⟨a,ha,e⟩
     ·exact g2 d (by simp[hd]) b hb h0 h
     ·exact g4 d hd a ha b hb h0 e
   ·rw[h4];dsimp only;constructor
    ·rintro⟨_,h⟩;simp at h
    ·rintro⟨_,g2,_⟩;exact absurd (fun b hb h0=>g2 c (by simp) b hb h0) h3
  ·constructor
   ·rintro⟨h,_⟩;exact absurd h hc
   ·rintro⟨h,_⟩;exact absurd (h c (by simp)) hc
structure JA(cs:List br):Prop where
 len:1≤(cs.length:Int)∧(cs.length:Int)≤6
 col: ∀c ∈ cs,hO c.f0 c.f1 c.f2=true
 aKj:cs.Pairwise KH
theorem NI(cs:List br):lD cs=true↔JA cs:=by
 unfold lD;rw[Bool.and_eq_true,decide_eq_true_iff,aaf];constructor
 ·rintro⟨h1,h2,_,h3⟩;exact⟨h1,h2,h3⟩
 ·rintro⟨h1,h2,h3⟩;exact⟨h1,h2,fun _ _ _ _ _=>by simp,h3⟩
theorem NJ(cs:List br)(hs:Small cs):Ev (fun k=>eK.f k cs) (lD cs):=by
 unfold eK.f;refine Ev.bind (Ev.const (Lt _ _ _)) ?_;by_cases c:1≤(cs.length:Int)∧(cs.length:Int)≤6
 ·refine Ev.pos (decide_eq_true c) ?_;refine(ajE cs hs cs 0 rfl (by omega)).to ?_;have e:DQ [] cs=wU cs []:=by
   rw[Bool.eq_iff_iff,ajN,aaf];constructor
   ·rintro⟨h1,_,h3⟩;exact⟨h1,fun _ _ _ _ _=>by simp,h3⟩
   ·rintro⟨h1,_,h3⟩;exact⟨h1,fun p hp=>absurd hp (by simp),h3⟩
  unfold lD;rw[decide_eq_true c,Bool.true_and,←e];rfl
 ·refine Ev.neg (by simpa using c) ((Ev.ret _).to ?_);unfold lD;rw[decide_eq_false c,Bool.false_and]
theorem al2(l:List Int)(hl:l.length≤1048576)(x:Int): ∀(rest:List Int) (i:Nat),l.drop i=rest→i≤l.length→Ev (fun k=>mW.l0 k l x (i:Int)) (decide (x ∈ rest))
 | [],i,hd,hi=>by
  have he:=jA hd hi;refine Ev.succ ?_;simp only[mW.l0];exact Ev.neg (by omega) ((Ev.ret _).to (by simp))
 |b::rest,i,hd,hi=>by
  obtain⟨h1,h2,h3⟩:=ja 0 hd;have er:rd l (i:Int)=b:=h2;have ih:=al2 l hl x rest (i+1) h3 (by omega);refine Ev.succ ?_;simp only[mW.l0,er];refine Ev.pos (by omega) (Ev.pos (by omega) ?_);rw[fY i (by omega)];by_cases c:b=x
  ·exact Ev.pos c ((Ev.ret _).to (by simp[c]))
  ·refine Ev.neg c (ih.to ?_);rw[decide_eq_decide,List.mem_cons];constructor
   ·exact Or.inr
   ·rintro(h|h)
    ·exact absurd h.symm c
    ·exact h
theorem azX(l:List Int)(hl:l.length≤1048576)(x:Int):Ev (fun k=>mW.f k l x) (decide (x ∈ l)):=by
 unfold mW.f;exact al2 l hl x l 0 rfl (by omega)
theorem apP(l:List Int)(hl:l.length≤1048576)(x:Int): ∀(rest:List Int) (i:Nat),l.drop i=rest→i≤l.length→ ∃r:Int,Ev (fun k=>ry.l0 k l x (l.length:Int) (i:Int)) r∧(0≤r↔x ∈ rest)
 | [],i,hd,hi=>by
  have he:=jA hd hi;refine⟨-1,Ev.succ ?_,by simp⟩;simp only[ry.l0];exact Ev.neg (by omega) (Ev.ret _)
 |b::rest,i,hd,hi=>by
  obtain⟨h1,h2,h3⟩:=ja 0 hd;have er:rd l (i:Int)=b:=h2;by_cases c:x=b
  ·refine⟨(i:Int),Ev.succ ?_,by simp[c]⟩;simp only[ry.l0,er];exact Ev.pos (by omega) (Ev.pos (by omega) (Ev.pos (by omega) (Ev.pos c (Ev.ret _))))
  ·obtain⟨r,h4,h5⟩:=apP l hl x rest (i+1) h3 (by omega);refine⟨r,Ev.succ ?_,by rw[h5,List.mem_cons];constructor;exact Or.inr;rintro(h|h);exact absurd h c;exact h⟩;simp only[ry.l0,er];refine Ev.pos (by omega) (Ev.pos (by omega) (Ev.pos (by omega) (Ev.neg c ?_)));rw[fY i (by omega)];exact h4
theorem ax8(l:List Int)(hl:l.length≤1048576)(x:Int):Ev (fun k=>I4.f k l x) (decide (x ∈ l)):=by
 obtain⟨r,h1,h2⟩:=apP l hl x l 0 rfl (by omega);unfold I4.f ry.f;refine Ev.bind h1 ((Ev.ret _).to ?_);rw[decide_eq_decide];exact h2
def tS(d:List ai×List ai×List ai):fI:=⟨jN d.2.1,(d.1.length:Int),(d.1.length:Int)+(d.2.1.length:Int)⟩
def qP(pre cur:List ai):List fI:=if cur= []then[]else[⟨jN cur,(pre.length:Int),(pre.length:Int)+(cur.length:Int)⟩]
theorem abM(pre cur bs:List ai):(wY pre cur bs).map tS=qP pre cur:=by
 unfold wY qP;split<;>rfl
theorem akB(pre cur:List ai):(qP pre cur).length≤1∧(cur= []→qP pre cur= []):=by
 unfold qP;split
 ·next h=>exact⟨by simp,fun _=>rfl⟩
 ·next h=>exact⟨by simp,fun c=>absurd c h⟩
theorem ak1{cur:List ai}(h:cur≠ [])(b:ai):jN (cur++ [b])=⟨(jN cur).f0,(jN cur).f1,(jN cur).f2+b.f1⟩:=by
 cases cur with
 |nil=>exact absurd rfl h
 |cons x cur=>
  show(aZ.mk 0 x.f0 (fl (x::cur++ [b])))=aZ.mk 0 x.f0 (fl (x::cur)+b.f1);rw[zU];(have:fl [b]=b.f1:=by rw[rz,nN];omega);rw[this]
theorem alk{α:Type}(l:List α)(s d:α):(l++ [s]).getD l.length d=s:=by
 rw[List.getD_eq_getElem?_getD,List.getElem?_append_right (Nat.le_refl _),Nat.sub_self];rfl
theorem aqV{α:Type}(l:List α)(s t:α):(l++ [s]).set l.length t=l++ [t]:=by
 rw[List.set_append_right _ _ (Nat.le_refl _),Nat.sub_self];rfl
theorem W9(h:Int)(fx:List Int)(hf:fx.length≤1048576)(bx:List ai)(hl:bx.length≤24)(hm: ∀b ∈ bx,1≤b.f1∧b.f1≤24):
  ∀(rest:List ai) (i:Nat) (pre cur:List ai) (done:List fI),bx.drop i=rest→i≤bx.length→pre.length+cur.length=i→done.length≤i→0≤fl cur→fl cur≤24*(i:Int)→
  Ev (fun k=>gE.l0 k (done++qP pre cur) (decide (cur≠ [])) bx (bx.length:Int) (i:Int) h fx bx) (done++(lR fx pre cur rest).map tS)
 | [],i,pre,cur,done,hd,hi,hp,hn,s0,s1=>by
  have he:=jA hd hi;refine Ev.succ ?_;simp only[gE.l0,lR];rw[abM];exact Ev.neg (by omega) (Ev.ret _)
 |b::rest,i,pre,cur,done,hd,hi,hp,hn,s0,s1=>by
  obtain⟨h1,h2,h3⟩:=ja jf hd;have er:ah bx (i:Int)=b:=h2;(have hb:b ∈ bx:=by rw[←h2,oG _ h1];exact List.getElem_mem _);have hbb:=hm b hb;have hl1:=akB pre cur;refine Ev.succ ?_;simp only[gE.l0,er];refine Ev.pos (by omega) (Ev.pos (by omega) (Ev.pos (by omega) ?_));have go: ∀(s:Bool),s= !kZ b→Ev (fun k=>gE.j1 k (done++qP pre cur) (decide (cur≠ [])) (i:Int) bx (bx.length:Int) (i:Int) s h fx bx b.f0 b.f1 b.f2 b.f3) (done++(lR fx pre cur (b::rest)).map tS):=by
   intro s hs;refine Ev.succ ?_;simp only[gE.j1,lR];rw[fY i (by omega)];cases Ll:kZ b with
   |false=>
    rw[Ll]at hs;subst hs;rw[if_neg (by simp),List.map_append,abM,←List.append_assoc];have ih:=W9 h fx hf bx hl hm rest (i+1) (pre++cur++ [b]) [] (done++qP pre cur) h3 (by omega) (by simp;omega) (by simp;omega) (by rw[nN];omega) (by rw[nN];omega);rw[(akB _ _).2 rfl,List.append_nil]at ih;exact Ev.pos (by trivial) (ih.to rfl)
   |true=>
    rw[Ll]at hs;subst hs;refine Ev.neg (by simp) ?_;rw[if_pos rfl];have new:(cur≠ []→b.f0 ∈ fx)→Ev (fun k=>if(done++qP pre cur).length<3518437208883 then gE.l0 k (done++qP pre cur++ [⟨⟨0,b.f0,b.f1⟩,(i:Int),((i+1:Nat):Int)⟩]) true bx (bx.length:Int) ((i+1:Nat):Int) h fx bx else none) (done++(if cur≠ []∧b.f0 ∉ fx then lR fx pre (cur++ [b]) rest else wY pre cur (b::rest)++lR fx (pre++cur) [b] rest).map tS):=by
     intro hc;rw[if_neg (fun e=>e.2 (hc e.1)),List.map_append,abM,←List.append_assoc];(have sb:fl [b]=b.f1:=by rw[rz,nN];omega);have ih:=W9 h fx hf bx hl hm rest (i+1) (pre++cur) [b] (done++qP pre cur) h3 (by omega) (by simp;omega) (by simp;omega) (by rw[sb];omega) (by rw[sb];omega);refine Ev.pos (by simp;omega) (Ev.of_eq ih (fun k=>?_));have e:qP (pre++cur) [b]= [⟨⟨0,b.f0,b.f1⟩,(i:Int),((i+1:Nat):Int)⟩]:=by
      unfold qP;rw[if_neg (by simp)];show[(fI.mk (aZ.mk 0 b.f0 (fl [b])) _ _)]=_;rw[sb,List.length_append,hp];rfl
     rw[e];rfl
    by_cases hc:cur= []
    ·(have e:decide (cur≠ [])=false:=by simp[hc]);rw[e];refine Ev.neg (by simp) ?_;exact new (fun c=>absurd hc c)
    ·(have e:decide (cur≠ [])=true:=by simp[hc]);rw[e];refine Ev.pos rfl ?_;refine Ev.bind (ax8 fx hf b.f0) ?_;by_cases yL:b.f0 ∈ fx
     ·refine Ev.pos (decide_eq_true yL) ?_;exact new (fun _=>yL)
     ·refine Ev.neg (by simpa using yL) ?_;rw[if_pos ⟨hc,yL⟩];(have eT:qP pre cur= [⟨jN cur,(pre.length:Int),(pre.length:Int)+(cur.length:Int)⟩]:=by unfold qP;rw[if_neg hc]);have ih:=W9 h fx hf bx hl hm rest (i+1) pre (cur++ [b]) done h3 (by omega) (by simp;omega) (by omega) (by rw[zU,rz,nN];omega) (by rw[zU,rz,nN];omega);have eT2:qP pre (cur++ [b])= [⟨⟨(jN cur).f0,(jN cur).f1,(jN cur).f2+b.f1⟩,(pre.length:Int),(i:Int)+1⟩]:=by
       unfold qP;rw[if_neg (by simp),ak1 hc,List.length_append];simp;omega
      rw[eT2]at ih;rw[eT];have hw:wrap64 (((done++ [(fI.mk (jN cur) (pre.length:Int) ((pre.length:Int)+(cur.length:Int)))]).length:Int)-1)=(done.length:Int):=by
       simp;unfold wrap64;omega
      (have hg:(jN cur).f2=fl cur:=by cases cur with|nil=>exact absurd rfl hc|cons x cur=>rfl);rw[hw];have hrd: ∀v:fI,aA (done++ [v]) (done.length:Int)=v:=fun v=>alk done v _;refine Ev.pos (by omega) (Ev.pos (by simp;omega) ?_);simp only[hrd,Int.toNat_natCast,aqV,Option.bind_some];refine Ev.of_eq ih (fun k=>?_);rw[wid ((jN cur).f2+b.f1) (by omega) (by omega),show(pre.length:Int)+(cur.length:Int)=(i:Int) by omega,wid ((i:Int)+1) (by omega) (by omega)];(have e2:decide (cur++ [b]≠ [])=true:=by simp);rw[e2]
  by_cases c2:b.f2=0
  ·refine Ev.pos c2 (go b.f3 ?_);unfold kZ;rw[decide_eq_true c2,Bool.true_and,Bool.not_not]
  ·refine Ev.neg c2 (go true ?_);unfold kZ;rw[decide_eq_false c2];rfl
theorem aqT(h:Int)(fx:List Int)(hf:fx.length≤1048576)(bx:List ai)(hl:bx.length≤24)(hm: ∀b ∈ bx,1≤b.f1∧b.f1≤24):Ev (fun k=>gE.f k h fx bx) ((lR fx [] [] bx).map tS):=by
 unfold gE.f;exact W9 h fx hf bx hl hm bx 0 [] [] [] rfl (by omega) rfl (by simp) (by rw[nN];omega) (by rw[nN];omega)
theorem Uw(fx:List Int): ∀(bs cur:List ai),(fV fx cur bs).length≤bs.length+(fZ cur).length
 | [],cur=>by simp[fV]
 |b::bs,cur=>by
  (have e1: ∀(x:List ai),(fZ x).length≤1:=fun x=>by unfold fZ;split<;>simp);have e0:fZ []= []:=rfl;simp only[fV];split
  ·split
   ·next h=>
    have:=Uw fx bs (cur++ [b]);(have e2:(fZ cur).length=1:=by unfold fZ;rw[if_neg h.1];rfl);have:=e1 (cur++ [b]);simp;omega
   ·have:=Uw fx bs [b];have:=e1 [b];simp;omega
  ·have:=Uw fx bs [];rw[e0]at this;simp at this⊢;omega
theorem Ov(fx:List Int)(bx:List ai):(iM fx bx).length≤bx.length:=by
 have:=Uw fx bx [];have e0:fZ []= []:=rfl;rw[e0]at this;unfold iM;simpa using this
def qQ(h:Int)(fx:List Int)(bx:List ai):List aZ:=if hO h fx bx=true then iM fx bx else[]
theorem azz(h:Int)(fx:List Int)(bx:List ai):(qQ h fx bx).length≤24:=by
 unfold qQ;split
 ·next c=>
  have:=Ov fx bx;have:=((qd h fx bx).mp c).len;omega
 ·simp
theorem aex(a b c:Int)(d:Bool):tO.f a b c d=some (kZ ⟨a,b,c,d⟩):=by
 unfold tO.f kZ;dsimp only;by_cases h:c=0
 ·rw[if_pos h,decide_eq_true h,Bool.true_and]
 ·rw[if_neg h,decide_eq_false h,Bool.false_and]
theorem Uv(h:Int)(fx:List Int)(hf:fx.length≤1048576)(bx:List ai)(hl:bx.length≤24)(hm: ∀b ∈ bx,1≤b.f1∧b.f1≤24):
  ∀(rest:List ai) (i:Nat) (cur:List ai) (done:List aZ),bx.drop i=rest→i≤bx.length→done.length≤i→0≤fl cur→fl cur≤24*(i:Int)→(cur≠ []↔0<i∧kZ (bx.getD (i-1) jf)=true)→
  Ev (fun k=>g7.l0 k (done++fZ cur) (i:Int) h fx bx) (done++fV fx cur rest)
 | [],i,cur,done,hd,hi,hn,s0,s1,hc=>by
  have he:=jA hd hi;refine Ev.succ ?_;simp only[g7.l0,fV];exact Ev.neg (by omega) (Ev.ret _)
 |b::rest,i,cur,done,hd,hi,hn,s0,s1,hc=>by
  obtain⟨h1,h2,h3⟩:=ja jf hd;have er:ah bx (i:Int)=b:=h2;(have hb:b ∈ bx:=by rw[←h2,oG _ h1];exact List.getElem_mem _);have hbb:=hm b hb;have eb:(ai.mk b.f0 b.f1 b.f2 b.f3)=b:=rfl;(have hl1:(fZ cur).length≤1:=by unfold fZ;split<;>simp);refine Ev.succ ?_;simp only[g7.l0,er,fV];rw[fY i (by omega)];refine Ev.pos (by omega) (Ev.pos (by omega) ?_);refine Ev.bind (Ev.const (aex _ _ _ _)) ?_;rw[eb];(have nxt:kZ (bx.getD (i+1-1) jf)=kZ b:=by rw[Nat.add_sub_cancel,h2]);cases Ll:kZ b with
  |false=>
   refine Ev.neg (by simp) ?_;rw[if_neg (by simp),←List.append_assoc];have ih:=Uv h fx hf bx hl hm rest (i+1) [] (done++fZ cur) h3 (by omega) (by simp;omega) (by rw[nN];omega) (by rw[nN];omega) ⟨fun c=>absurd rfl c,fun c=>by rw[nxt,Ll]at c;simp at c⟩;have e0:fZ []= []:=rfl;rw[e0,List.append_nil]at ih;exact ih
  |true=>
   refine Ev.pos (by trivial) ?_;rw[if_pos rfl];(have sb:fl [b]=b.f1:=by rw[rz,nN];omega);have new:(cur≠ []→b.f0 ∈ fx)→Ev (fun k=>if(done++fZ cur).length<5864062014805 then g7.l0 k (done++fZ cur++ [⟨0,b.f0,b.f1⟩]) ((i+1:Nat):Int) h fx bx else none) (done++(if cur≠ []∧b.f0 ∉ fx then fV fx (cur++ [b]) rest else fZ cur++fV fx [b] rest)):=by
    intro OP;rw[if_neg (fun e=>e.2 (OP e.1)),←List.append_assoc];have ih:=Uv h fx hf bx hl hm rest (i+1) [b] (done++fZ cur) h3 (by omega) (by simp;omega) (by rw[sb];omega) (by rw[sb];omega) ⟨fun _=>⟨by omega,by rw[nxt,Ll]⟩,fun _=>by simp⟩;refine Ev.pos (by simp;omega) (Ev.of_eq ih (fun k=>?_));have e:fZ [b]= [⟨0,b.f0,b.f1⟩]:=by
     unfold fZ;rw[if_neg (by simp)];show[(aZ.mk 0 b.f0 (fl [b]))]=_;rw[sb]
    rw[e]
   by_cases si:cur= []
   ·have hno: ¬(0<i∧kZ (bx.getD (i-1) jf)=true):=fun c=>hc.mpr c si;by_cases ci:(i:Int)>0
    ·refine Ev.pos ci ?_;rw[SH i (by omega) (by omega)];have Gg:ah bx ((i-1:Nat):Int)=bx.getD (i-1) jf:=rfl;refine Ev.pos (by omega) (Ev.pos (by omega) (Ev.bind (Ev.const (aex _ _ _ _)) ?_));rw[Gg];refine Ev.neg (fun c=>hno ⟨by omega,c⟩) ?_;exact new (fun c=>absurd si c)
    ·refine Ev.neg ci ?_;exact new (fun c=>absurd si c)
   ·obtain⟨ci,co⟩:=hc.mp si;refine Ev.pos (by omega) ?_;rw[SH i (by omega) (by omega)];have Gg:ah bx ((i-1:Nat):Int)=bx.getD (i-1) jf:=rfl;refine Ev.pos (by omega) (Ev.pos (by omega) (Ev.bind (Ev.const (aex _ _ _ _)) ?_));rw[Gg];refine Ev.pos co ?_;refine Ev.bind (azX fx hf b.f0) ?_;by_cases yL:b.f0 ∈ fx
    ·refine Ev.pos (decide_eq_true yL) ?_;exact new (fun _=>yL)
    ·refine Ev.neg (by simpa using yL) ?_;rw[if_pos ⟨si,yL⟩];(have eT:fZ cur= [jN cur]:=by unfold fZ;rw[if_neg si]);have ih:=Uv h fx hf bx hl hm rest (i+1) (cur++ [b]) done h3 (by omega) (by omega) (by rw[zU,sb];omega) (by rw[zU,sb];omega) ⟨fun _=>⟨by omega,by rw[nxt,Ll]⟩,fun _=>by simp⟩;have eT2:fZ (cur++ [b])= [⟨(jN cur).f0,(jN cur).f1,(jN cur).f2+b.f1⟩]:=by
      unfold fZ;rw[if_neg (by simp),ak1 si]
     rw[eT2]at ih;rw[eT];(have hg:(jN cur).f2=fl cur:=by cases cur with|nil=>exact absurd rfl si|cons x cur=>rfl);have hw:wrap64 (((done++ [jN cur]).length:Int)-1)=(done.length:Int):=by
      simp;unfold wrap64;omega
     rw[hw];have hrd: ∀v:aZ,bX (done++ [v]) (done.length:Int)=v:=fun v=>alk done v _;refine Ev.pos (by omega) (Ev.pos (by simp;omega) ?_);simp only[hrd,Int.toNat_natCast,aqV];rw[wid ((jN cur).f2+b.f1) (by omega) (by omega)];exact ih
theorem ak3(h:Int)(fx:List Int)(hf:fx.length≤1048576)(bx:List ai)(hb:bx.length≤1048576):Ev (fun k=>g7.f k h fx bx) (qQ h fx bx):=by
 unfold g7.f qQ;refine Ev.bind (Ev.ret _) (Ev.bind (KG h fx (by omega) bx (by omega)) ?_);by_cases c:hO h fx bx=true
 ·have v:=(qd h fx bx).mp c;rw[if_pos c];refine Ev.pos c ?_;exact Uv h fx hf bx v.len (fun b hb=>by have:=v.mem hb;omega) bx 0 [] [] rfl (by omega) (by simp) (by rw[nN];omega) (by rw[nN];omega) ⟨fun c=>absurd rfl c,fun c=>absurd c.1 (by omega)⟩
 ·rw[if_neg c];exact Ev.neg c (Ev.ret _)
def dG:Int→List br→List aZ
 |_,[]=> []
 |k,c::cs=>(iM c.f1 c.f2).map (fun g=>⟨k,g.f1,g.f2⟩)++dG (k+1) cs
def wT(cs:List br):List aZ:=if lD cs=true then dG 0 cs else[]
structure Flat(cs:List br):Prop where
 len:cs.length≤6
 fix: ∀c ∈ cs,c.f1.length≤1048576
 box: ∀c ∈ cs,c.f2.length≤24
 sz: ∀c ∈ cs,∀b ∈ c.f2,1≤b.f1∧b.f1≤24
theorem JA.flat{cs:List br}(v:JA cs)(hs:Small cs):Flat cs:=
 ⟨by have:=v.len;omega,fun c hc=>(hs.2 c hc).1,fun c hc=>((qd _ _ _).mp (v.col c hc)).len,fun c hc b hb=>by have:=((qd _ _ _).mp (v.col c hc)).mem hb;omega⟩
theorem ajQ{r':List aZ}(cs:List br)(i:Nat)(hi:i≤1048576)(gs:List aZ)(hg:gs.length≤24)(M:Nat)(hM:M≤1048576)(res:List aZ)
  (hr:Ev (fun k=>iu.l0 k cs res ((i+1:Nat):Int)) r'): ∀(rest:List aZ) (n:Nat) (acc:List aZ),gs.drop n=rest→n≤gs.length→acc.length≤M+n→acc++rest.map (fun g=>⟨(i:Int),g.f1,g.f2⟩)=res→Ev (fun k=>iu.l1 k cs acc (i:Int) gs (n:Int)) r'
 | [],n,acc,hd,hn,ha,Cq=>by
  have he:=jA hd hn;refine Ev.succ ?_;simp only[iu.l1];rw[fY i (by omega)];simp at Cq;subst Cq;exact Ev.neg (by omega) hr
 |g::rest,n,acc,hd,hn,ha,Cq=>by
  obtain⟨h1,h2,h3⟩:=ja wv hd;have er:bX gs (n:Int)=g:=h2;refine Ev.succ ?_;simp only[iu.l1,er];rw[fY n (by omega)];exact Ev.pos (by omega) (Ev.pos (by omega) (Ev.pos (by omega) (ajQ cs i hi gs hg M hM res hr rest (n+1) _ h3 (by omega) (by simp;omega) (by rw[←Cq];simp))))
theorem ajR(cs:List br)(hf:Flat cs)(hc: ∀c ∈ cs,hO c.f0 c.f1 c.f2=true): ∀(rest:List br) (i:Nat) (acc:List aZ),cs.drop i=rest→i≤cs.length→acc.length≤24*i→Ev (fun k=>iu.l0 k cs acc (i:Int)) (acc++dG (i:Int) rest)
 | [],i,acc,hd,hi,ha=>by
  have he:=jA hd hi;have hl:=hf.len;refine Ev.succ ?_;simp only[iu.l0];exact Ev.neg (by omega) ((Ev.ret _).to (by simp[dG]))
 |c::rest,i,acc,hd,hi,ha=>by
  obtain⟨h1,h2,h3⟩:=ja lJ hd;have er:aN cs (i:Int)=c:=h2;(have hm:c ∈ cs:=by rw[←h2,oG _ h1];exact List.getElem_mem _);have hl:=hf.len;have hb:=hf.box c hm;(have hg:qQ c.f0 c.f1 c.f2=iM c.f1 c.f2:=by unfold qQ;rw[if_pos (hc c hm)]);have hgl:=Ov c.f1 c.f2;have ih:=ajR cs hf hc rest (i+1) (acc++(iM c.f1 c.f2).map (fun g=>⟨(i:Int),g.f1,g.f2⟩)) h3 (by omega) (by simp;omega);refine Ev.succ ?_;simp only[iu.l0,er];refine Ev.pos (by omega) (Ev.pos (by omega) (Ev.bind (ak3 c.f0 c.f1 (hf.fix c hm) c.f2 (by omega)) ?_));rw[hg];refine ajQ cs i (by omega) _ (by omega) (24*i) (by omega) _ (ih.to ?_) _ 0 acc rfl (by omega) (by omega) rfl;rw[dG,List.append_assoc];rfl
theorem ajM(cs:List br)(hs:Small cs):Ev (fun k=>iu.f k cs) (wT cs):=by
 unfold iu.f wT;refine Ev.bind (Ev.ret _) (Ev.bind (NJ cs hs) ?_);by_cases hb:lD cs=true
 ·rw[if_pos hb];have v:=(NI cs).mp hb;exact Ev.pos hb (ajR cs (v.flat hs) v.col cs 0 [] rfl (by omega) (by simp))
 ·rw[if_neg hb];exact Ev.neg hb (Ev.ret _)
theorem ajS(cs:List br)(hcs:cs.length≤6)(i:Nat)(hi:i<cs.length)(rs:List fI)(hg:rs.length≤24)(M:Nat)(hM:M≤1048576)(res:List aZ){r':List aZ}
  (hr:Ev (fun k=>kD.l0 k res cs (cs.length:Int) ((i+1:Nat):Int)) r'): ∀(rest:List fI) (n:Nat) (acc:List aZ),rs.drop n=rest→n≤rs.length→acc.length≤M+n→acc++rest.map (fun r=>⟨(i:Int),r.f0.f1,r.f0.f2⟩)=res→Ev (fun k=>kD.l1 k acc (i:Int) cs (cs.length:Int) (i:Int) rs (rs.length:Int) (n:Int)) r'
 | [],n,acc,hd,hn,ha,Cq=>by
  have he:=jA hd hn;refine Ev.succ ?_;simp only[kD.l1];rw[fY i (by omega)];simp at Cq;subst Cq;exact Ev.neg (by omega) hr
 |g::rest,n,acc,hd,hn,ha,Cq=>by
  obtain⟨h1,h2,h3⟩:=ja EV hd;have er:aA rs (n:Int)=g:=h2;refine Ev.succ ?_;simp only[kD.l1,er];rw[fY n (by omega)];exact Ev.pos (by omega) (Ev.pos (by omega) (Ev.pos (by omega) (Ev.pos (by omega) (ajS cs hcs i hi rs hg M hM res hr rest (n+1) _ h3 (by omega) (by simp;omega) (by rw[←Cq];simp)))))
theorem ajT(cs:List br)(hf:Flat cs): ∀(rest:List br) (i:Nat) (acc:List aZ),cs.drop i=rest→i≤cs.length→acc.length≤24*i→Ev (fun k=>kD.l0 k acc cs (cs.length:Int) (i:Int)) (acc++dG (i:Int) rest)
 | [],i,acc,hd,hi,ha=>by
  have he:=jA hd hi;have hl:=hf.len;refine Ev.succ ?_;simp only[kD.l0];exact Ev.neg (by omega) ((Ev.ret _).to (by simp[dG]))
 |c::rest,i,acc,hd,hi,ha=>by
  obtain⟨h1,h2,h3⟩:=ja lJ hd;have er:aN cs (i:Int)=c:=h2;(have hm:c ∈ cs:=by rw[←h2,oG _ h1];exact List.getElem_mem _);have hl:=hf.len;have hb:=hf.box c hm;have hgl:=Ov c.f1 c.f2;have OX:((lR c.f1 [] [] c.f2).map tS).length≤24:=by
   have h2:=congrArg List.length (D1 c.f1 c.f2 [] []);rw[List.length_map]at h2⊢;unfold iM at hgl;omega
  have ih:=ajT cs hf rest (i+1) (acc++(iM c.f1 c.f2).map (fun g=>⟨(i:Int),g.f1,g.f2⟩)) h3 (by omega) (by simp;omega);refine Ev.succ ?_;simp only[kD.l0,er];refine Ev.pos (by omega) (Ev.pos (by omega) (Ev.pos (by omega) (Ev.bind (aqT c.f0 c.f1 (hf.fix c hm) c.f2 hb (hf.sz c hm)) ?_)));refine ajS cs hl i h1 _ OX (24*i) (by omega) _ (ih.to ?_) _ 0 acc rfl (by omega) (by omega) ?_
  ·rw[dG,List.append_assoc];rfl
  ·rw[List.drop_zero,List.map_map];unfold iM;rw[←D1 c.f1 c.f2 [] [],List.map_map];rfl
theorem ajJ(cs:List br)(hf:Flat cs):Ev (fun k=>kD.f k cs) (dG 0 cs):=by
 unfold kD.f;exact ajT cs hf cs 0 [] rfl (by omega) (by simp)
theorem aad: ∀(cs:List br) (k:Int),(∀c ∈ cs,c.f2.length≤24)→(dG k cs).length≤24*cs.length
 | [],_,_=>by simp[dG]
 |c::cs,k,h=>by
  have:=aad cs (k+1) (fun d hd=>h d (by simp[hd]));have:=Ov c.f1 c.f2;have:=h c (by simp);rw[dG];simp;omega
theorem Z9(cs:List br):(wT cs).length≤144:=by
 unfold wT;split
 ·next hb=>
  have v:=(NI cs).mp hb;have:=aad cs 0 (fun c hc=>((qd _ _ _).mp (v.col c hc)).len);have:=v.len;omega
 ·simp
theorem Ux(fx:List Int): ∀(bs cur:List ai) (M:Int),(∀b ∈ bs,1≤b.f1)→(cur≠ []→1≤fl cur)→fl cur+fl bs≤M→ ∀g ∈ fV fx cur bs,1≤g.f2∧g.f2≤M
 | [],cur,M,_,hc,hM,g,hg=>by
  simp only[fV,fZ]at hg;split at hg
  ·simp at hg
  ·next h=>
   rw[List.mem_singleton.mp hg];(have VB:(jN cur).f2=fl cur:=by cases cur with|nil=>exact absurd rfl h|cons x cur=>rfl);have:=hc h;rw[nN]at hM;omega
 |b::bs,cur,M,hb,hc,hM,g,hg=>by
  have KR:=hb b (by simp);have UD: ∀x ∈ bs,1≤x.f1:=fun x hx=>hb x (by simp[hx]);(have sb:fl [b]=b.f1:=by rw[rz,nN];omega);have sn: ∀l:List ai,(∀x ∈ l,1≤x.f1)→0≤fl l:=by
   intro l;induction l with
   |nil=>intro _;exact Int.le_refl _
   |cons x l ih=>intro h;rw[rz];have:=h x (by simp);have:=ih (fun y hy=>h y (by simp[hy]));omega
  have s0:=sn bs UD;have sc:0≤fl cur:=by
   by_cases h:cur= []
   ·subst h;exact Int.le_refl _
   ·have:=hc h;omega
  rw[rz]at hM;have em: ∀g ∈ fZ cur,1≤g.f2∧g.f2≤M:=by
   intro g hg;unfold fZ at hg;split at hg
   ·simp at hg
   ·next h=>
    rw[List.mem_singleton.mp hg];(have VB:(jN cur).f2=fl cur:=by cases cur with|nil=>exact absurd rfl h|cons x cur=>rfl);have:=hc h;omega
  simp only[fV]at hg;split at hg
  ·split at hg
   ·exact Ux fx bs (cur++ [b]) M UD (fun _=>by rw[zU,sb];omega) (by rw[zU,sb];omega) g hg
   ·rcases List.mem_append.mp hg with hg|hg
    ·exact em g hg
    ·exact Ux fx bs [b] M UD (fun _=>by rw[sb];omega) (by rw[sb];omega) g hg
  ·rcases List.mem_append.mp hg with hg|hg
   ·exact em g hg
   ·exact Ux fx bs [] M UD (fun h=>absurd rfl h) (by rw[nN];omega) g hg
theorem ak2(fx:List Int)(bx:List ai)(lo hi:Int)(ht:je lo bx hi): ∀g ∈ iM fx bx,1≤g.f2∧g.f2≤hi-lo:=by
 have:=tR _ _ _ ht;exact Ux fx bx [] (hi-lo) (fun b hb=>(C8 _ _ _ ht b hb).2.1) (fun h=>absurd rfl h) (by rw[nN];omega)
theorem aae: ∀(cs:List br) (k:Int),(∀c ∈ cs,∃h,je 0 c.f2 h∧h≤24)→ ∀g ∈ dG k cs,1≤g.f2∧g.f2≤24
 | [],_,_,g,hg=>by simp[dG]at hg
 |c::cs,k,h,g,hg=>by
  rw[dG]at hg;rcases List.mem_append.mp hg with hg|hg
  ·obtain⟨x,hx,rfl⟩:=List.mem_map.mp hg;obtain⟨e,ht,he⟩:=h c (by simp);have:=ak2 c.f1 c.f2 0 e ht x hx;exact⟨this.1,by show x.f2≤24;omega⟩
  ·exact aae cs (k+1) (fun d hd=>h d (by simp[hd])) g hg
theorem aac(cs:List br): ∀g ∈ wT cs,1≤g.f2∧g.f2≤24:=by
 unfold wT;split
 ·next hb=>
  have v:=(NI cs).mp hb;exact aae cs 0 (fun c hc=>⟨c.f0,((qd _ _ _).mp (v.col c hc)).l5,((qd _ _ _).mp (v.col c hc)).hi.2⟩)
 ·intro g hg;simp at hg
def Bj:List (List ai)→Nat
 | []=>0
 |l::ls=>l.length+Bj ls
theorem akt(ls:List (List ai))(hl:ls.length≤1048576): ∀(rest:List (List ai)) (i:Nat) (acc:List ai),ls.drop i=rest→i≤ls.length→acc.length+Bj rest≤1048576→
  Ev (fun k=>kT.l1 k acc ls (ls.length:Int) (i:Int)) (acc++rest.flatten)
 | [],i,acc,hd,hi,ha=>by
  have he:=jA hd hi;refine Ev.succ ?_;simp only[kT.l1];exact Ev.neg (by omega) ((Ev.ret _).to (by simp))
 |b::rest,i,acc,hd,hi,ha=>by
  obtain⟨h1,h2,h3⟩:=ja [] hd;have er:sr ls (i:Int)=b:=h2;rw[Bj]at ha;refine Ev.succ ?_;simp only[kT.l1,er];rw[fY i (by omega)];refine Ev.pos (by omega) (Ev.pos (by omega) (Ev.pos (by omega) (Ev.pos (by omega) ?_)));refine(akt ls hl rest (i+1) (acc++b) h3 (by omega) (by simp;omega)).to ?_;simp
theorem aks(ls:List (List ai))(hl:ls.length≤1048576)(ht:Bj ls≤1048576): ∀(rest:List (List ai)) (i:Nat) (s:Nat),ls.drop i=rest→i≤ls.length→s+Bj rest=Bj ls→
  Ev (fun k=>kT.l0 k ls (s:Int) ls (ls.length:Int) (i:Int)) ls.flatten
 | [],i,s,hd,hi,ha=>by
  have he:=jA hd hi;rw[Bj]at ha;refine Ev.succ ?_;simp only[kT.l0];refine Ev.neg (by omega) ?_;refine Ev.bind (a:= []) (Ev.const (by unfold Hy.f;rw[if_pos (by omega)])) ?_;have:=akt ls hl ls 0 [] rfl (by omega) (by simp;omega);exact this
 |b::rest,i,s,hd,hi,ha=>by
  obtain⟨h1,h2,h3⟩:=ja [] hd;have er:sr ls (i:Int)=b:=h2;rw[Bj]at ha;refine Ev.succ ?_;simp only[kT.l0,er];rw[fY i (by omega),wid ((s:Int)+(b.length:Int)) (by omega) (by omega)];refine Ev.pos (by omega) (Ev.pos (by omega) (Ev.pos (by omega) (Ev.neg (by omega) ?_)));exact aks ls hl ht rest (i+1) (s+b.length) h3 (by omega) (by omega)
theorem ax6(ls:List (List ai))(hl:ls.length≤1048576)(ht:Bj ls≤1048576):Ev (fun k=>kT.f k ls) ls.flatten:=by
 unfold kT.f;exact aks ls hl ht ls 0 0 rfl (by omega) (by omega)
def uA(lo:Int)(N:List ai):List ai→List (List ai×List ai×List ai)→List ai
 |acc,[]=>acc
 |acc,d::ds=>uA lo N (if gu d.2.1=lo then d.1++N++d.2.2 else acc) ds
theorem akT(h:Int)(fx:List Int)(bx:List ai)(hl:bx.length≤24)(lo:Int)(N:List ai)(hN:N.length≤24)(D:List (List ai×List ai×List ai))(hD:D.length≤24)(hD2: ∀d ∈ D,d.1++d.2.1++d.2.2=bx∧d.2.1≠ []):
  ∀(rest:List (List ai×List ai×List ai)) (i:Nat) (acc:List ai),D.drop i=rest→i≤D.length→Ev (fun k=>jg.l0 k lo N (D.map tS) ((D.map tS).length:Int) (i:Int) h fx bx h fx acc) (h,fx,uA lo N acc rest)
 | [],i,acc,hd,hi=>by
  have he:=jA hd hi;refine Ev.succ ?_;simp only[jg.l0,List.length_map];exact Ev.neg (by omega) (Ev.ret _)
 |d::rest,i,acc,hd,hi=>by
  obtain⟨h1,h2,h3⟩:=ja ([],[],[]) hd;(have hm:d ∈ D:=by rw[←h2,oG _ h1];exact List.getElem_mem _);have er:aA (D.map tS) (i:Int)=tS d:=by
   show(D.map tS).getD i _=_;rw[List.getD_eq_getElem?_getD,List.getElem?_map,List.getElem?_eq_getElem h1,←h2,oG _ h1];rfl
  obtain⟨hall,hne⟩:=hD2 d hm;have hlen:=congrArg List.length hall;simp at hlen;have elo:(tS d).f0.f1=gu d.2.1:=by
   unfold tS;cases hR:d.2.1 with
   |nil=>exact absurd hR hne
   |cons x xs=>rfl
  have ef:(tS d).f1=(d.1.length:Int):=rfl;have et:(tS d).f2=(d.1.length:Int)+(d.2.1.length:Int):=rfl;have ih:=fun acc=>akT h fx bx hl lo N hN D hD hD2 rest (i+1) acc h3 (by omega);refine Ev.succ ?_;simp only[jg.l0,er,elo,ef,et,uA];rw[fY i (by omega)];refine Ev.pos (by rw[List.length_map];omega) (Ev.pos (by omega) (Ev.pos (by rw[List.length_map];omega) ?_));by_cases c:gu d.2.1=lo
  ·rw[if_pos c];refine Ev.pos c (Ev.pos (by omega) (Ev.pos (by omega) (Ev.pos (by omega) (Ev.pos (by omega) ?_))));have e1:bx.take ((d.1.length:Int)).toNat=d.1:=by
    rw[Int.toNat_natCast,←hall,List.append_assoc,List.take_left'];rfl
   have e2:bx.drop ((d.1.length:Int)+(d.2.1.length:Int)).toNat=d.2.2:=by
    rw[show((d.1.length:Int)+(d.2.1.length:Int)).toNat=(d.1++d.2.1).length by rw[List.length_append];omega,←hall,List.drop_left'];rfl
   rw[e1,e2];refine Ev.bind (ax6 _ (by simp) (by simp only[Bj];omega)) ?_;refine(ih _).to ?_;simp
  ·rw[if_neg c];exact Ev.neg c (ih acc)
theorem azv(h:Int)(fx:List Int)(hf:fx.length≤1048576)(bx:List ai)(hl:bx.length≤24)(hm: ∀b ∈ bx,1≤b.f1∧b.f1≤24)(lo:Int)(N:List ai)(hN:N.length≤24):Ev (fun k=>jg.f k h fx bx lo N) (h,fx,uA lo N bx (lR fx [] [] bx)):=by
 unfold jg.f;refine Ev.bind (akv h fx bx (by omega) (by omega)) (Ev.bind (aqT h fx hf bx hl hm) ?_);have hD:(lR fx [] [] bx).length≤24:=by
  have h2:=congrArg List.length (D1 fx bx [] []);have h1:=Ov fx bx;rw[List.length_map]at h2;unfold iM at h1;omega
 exact akT h fx bx hl lo N hN _ hD (fun d hd=>⟨(N9 fx bx d hd).all,(N9 fx bx d hd).ne⟩) _ 0 bx rfl (by omega)
theorem Ci{R:List ai}(h:R≠ []):jN R=⟨0,gu R,fl R⟩:=by
 cases R with
 |nil=>exact absurd rfl h
 |cons x R=>rfl
theorem akR(lo:Int)(N:List ai): ∀(D:List (List ai×List ai×List ai)) (acc:List ai),(∀d ∈ D,gu d.2.1≠lo)→uA lo N acc D=acc
 | [],_,_=>rfl
 |d::D,acc,h=>by
  rw[uA,if_neg (h d (by simp))];exact akR lo N D acc (fun x hx=>h x (by simp[hx]))
theorem akS(lo:Int)(N:List ai): ∀(D:List (List ai×List ai×List ai)) (acc:List ai) (d:List ai×List ai×List ai),d ∈ D→D.Pairwise (fun a b=>gu a.2.1<gu b.2.1)→gu d.2.1=lo→uA lo N acc D=d.1++N++d.2.2
 | [],_,d,hd,_,_=>absurd hd (by simp)
 |x::D,acc,d,hd,hp,hl=>by
  obtain⟨h1,h2⟩:=List.pairwise_cons.mp hp;rw[uA];rcases List.mem_cons.mp hd with rfl|hd
  ·rw[if_pos hl];exact akR lo N D _ (fun y hy=>by have:=h1 y hy;omega)
  ·exact akS lo N D _ d hd h2 hl
theorem aya(fx:List Int)(bx:List ai)(lo hi:Int)(ht:je lo bx hi):(lR fx [] [] bx).Pairwise (fun a b=>gu a.2.1<gu b.2.1):=by
 have h1:=(Ow fx bx [] lo hi ht (fun c=>absurd rfl c)).1;rw[←D1 fx bx [] [],List.pairwise_map]at h1;refine List.Pairwise.imp_of_mem (fun ha hb h=>?_) h1;rw[Ci (N9 fx bx _ ha).ne,Ci (N9 fx bx _ hb).ne]at h;exact h
theorem abX(fx:List Int)(bx:List ai)(lo hi:Int)(ht:je lo bx hi)(g:aZ)(hg:g ∈ iM fx bx): ∃A R B,sY fx bx A R B∧g=⟨0,gu R,fl R⟩∧(∀N,oF g.f1 g.f2 N bx=A++N++B)∧ ∀N,uA g.f1 N bx (lR fx [] [] bx)=A++N++B:=by
 unfold iM at hg;rw[←D1 fx bx [] []]at hg;obtain⟨d,hd,rfl⟩:=List.mem_map.mp hg;have hr:=N9 fx bx d hd;have e:=Ci hr.ne;refine⟨d.1,d.2.1,d.2.2,hr,e,fun N=>?_,fun N=>?_⟩
 ·rw[e];have h2:=hr.all;(have h3:je lo (d.1++d.2.1++d.2.2) hi:=by rw[h2];exact ht);have:=azt h3 hr.ne N;rw[h2]at this;exact this
 ·rw[e];exact akS _ N _ bx d hd (aya fx bx lo hi ht) rfl
theorem af8{A R B N:List ai}{lo hi:Int}(h:je lo (A++R++B) hi)(hR:R≠ [])(hN:je (gu R) N (gu R+fl R)):je lo (A++N++B) hi:=by
 rw[C7,C7]at h⊢;obtain⟨⟨h1,h2⟩,h3⟩:=h;have e:gu R=lo+fl A:=by
  cases R with
  |nil=>exact absurd rfl hR
  |cons x R=>exact h2.1
 have s:=(tR _ _ _ hN).1;rw[zU]at h3⊢;(have e2:fl N=fl R:=by omega);rw[e2];refine⟨⟨h1,?_⟩,h3⟩;rw[e]at hN;rw[←Int.add_assoc];exact hN
def iq(lo sz mT size:Int):List ai:=⟨lo,size,mT,false⟩::(if size<sz then[⟨lo+size,sz-size,0,false⟩]else[])
theorem aqf(lo sz mT size:Int):(iq lo sz mT size).length≤2:=by
 unfold iq;split<;>simp
theorem abV(h:Int)(fx:List Int)(bx:List ai)(hl:bx.length≤24)(g0 lo sz mT size:Int)(h0:0≤lo)(h1:lo≤1000)(h2:0≤sz)(h3:sz≤1000)(h4:0≤size)(h5:size≤1000):
  ∀(rest:List ai) (i:Nat) (acc:List ai),bx.drop i=rest→i≤bx.length→acc.length≤3*i→Ev (fun k=>gX.l0 k mT size (i:Int) h fx bx g0 lo sz h fx acc) (h,fx,acc++oF lo sz (iq lo sz mT size) rest)
 | [],i,acc,hd,hi,ha=>by
  have he:=jA hd hi;refine Ev.succ ?_;simp only[gX.l0];exact Ev.neg (by omega) ((Ev.ret _).to (by simp[oF]))
 |b::rest,i,acc,hd,hi,ha=>by
  obtain⟨d1,d2,d3⟩:=ja jf hd;have er:ah bx (i:Int)=b:=d2;have hn:=aqf lo sz mT size;have ef:oF lo sz (iq lo sz mT size) (b::rest)=((if b.f0=lo then iq lo sz mT size else[])++(if b.f0<lo∨lo+sz≤b.f0 then[b]else[]))++oF lo sz (iq lo sz mT size) rest:=by
   unfold oF;rw[List.flatMap_cons]
  have last: ∀(Kl:List ai),Kl.length≤3*i+2→Ev (fun k=>gX.j1 k mT size (i:Int) h fx bx g0 lo sz h fx Kl b.f0 b.f1 b.f2 b.f3) (h,fx,Kl++(if b.f0<lo∨lo+sz≤b.f0 then[b]else[])++oF lo sz (iq lo sz mT size) rest):=by
   intro Kl hacc;refine Ev.succ ?_;simp only[gX.j1];rw[fY i (by omega),wid (lo+sz) (by omega) (by omega)];have keep:=abV h fx bx hl g0 lo sz mT size h0 h1 h2 h3 h4 h5 rest (i+1) (Kl++ [b]) d3 (by omega) (by simp;omega);by_cases c1:b.f0<lo
   ·rw[if_pos (Or.inl c1)];exact Ev.pos c1 (Ev.pos (by omega) keep)
   ·refine Ev.neg c1 ?_;by_cases c2:b.f0≥lo+sz
    ·rw[if_pos (Or.inr c2)];exact Ev.pos c2 (Ev.pos (by omega) keep)
    ·rw[if_neg (by omega),List.append_nil];exact Ev.neg c2 (abV h fx bx hl g0 lo sz mT size h0 h1 h2 h3 h4 h5 rest (i+1) Kl d3 (by omega) (by omega))
  refine Ev.succ ?_;simp only[gX.l0,er];rw[ef];refine Ev.pos (by omega) (Ev.pos (by omega) ?_);by_cases c:b.f0=lo
  ·rw[if_pos c];refine Ev.pos c (Ev.pos (by omega) (Ev.bind (Ev.ret _) ?_));(have la:(acc++iq lo sz mT size).length≤3*i+2:=by rw[List.length_append];omega);have Le:=last (acc++iq lo sz mT size) la;by_cases d:size<sz
   ·refine Ev.pos d (Ev.pos (by simp;omega) ?_);rw[wid (lo+size) (by omega) (by omega),wid (sz-size) (by omega) (by omega)];(have en:iq lo sz mT size= [⟨lo,size,mT,false⟩]++ [⟨lo+size,sz-size,0,false⟩]:=by unfold iq;rw[if_pos d];rfl);rw[en]at Le⊢;simp only[List.append_assoc]at Le⊢;exact Le
   ·refine Ev.neg d ?_;(have en:iq lo sz mT size= [⟨lo,size,mT,false⟩]:=by unfold iq;rw[if_neg d]);rw[en]at Le⊢;simp only[List.append_assoc]at Le⊢;exact Le
  ·rw[if_neg c,List.nil_append];refine Ev.neg c ((last acc (by omega)).to ?_);simp only[List.append_assoc]
theorem azu(h:Int)(fx:List Int)(hf:fx.length≤1048576)(bx:List ai)(hl:bx.length≤24)(g0 lo sz mT size:Int)(h0:0≤lo)(h1:lo≤1000)(h2:0≤sz)(h3:sz≤1000)(h4:0≤size)(h5:size≤1000):
  Ev (fun k=>gX.f k h fx bx g0 lo sz mT size) (h,fx,oF lo sz (iq lo sz mT size) bx):=by
 unfold gX.f;refine Ev.bind (Ev.ret _) (Ev.pos (by simp;omega) ?_);exact abV h fx bx hl g0 lo sz mT size h0 h1 h2 h3 h4 h5 bx 0 [] rfl (by omega) (by simp)
def T8(bx:List ai)(g:aZ):List ai:=oF g.f1 g.f2 (iq g.f1 g.f2 0 g.f2) bx
theorem aEq(lo sz p:Int):iq lo sz p sz= [⟨lo,sz,p,false⟩]:=by unfold iq;rw[if_neg (by omega)]
structure JC(h:Int)(fx:List Int)(G:List aZ)(bx:List ai):Prop where
 hi:h≤24
 l5:je 0 bx h
 gaps:iM fx bx=G
theorem JC.len{h:Int}{fx:List Int}{G:List aZ}{bx:List ai}(c:JC h fx G bx):bx.length≤24∧(∀b ∈ bx,1≤b.f1∧b.f1≤24):=by
 have:=tR _ _ _ c.l5;have:=c.hi;refine⟨by omega,fun b hb=>?_⟩;have:=C8 _ _ _ c.l5 b hb;omega
theorem JC.step{h:Int}{fx:List Int}{G:List aZ}{bx:List ai}(c:JC h fx G bx)(g:aZ)(hg:g ∈ G):
  JC h fx G (T8 bx g)∧(0≤g.f1∧1≤g.f2∧g.f1+g.f2≤24)∧uA g.f1 [⟨g.f1,g.f2,0,false⟩] bx (lR fx [] [] bx)=T8 bx g:=by
 (have hg':g ∈ iM fx bx:=by rw[c.gaps];exact hg);obtain⟨A,R,B,hr,e,h1,h2⟩:=abX fx bx 0 h c.l5 g hg';have hp:=ak2 fx bx 0 h c.l5 g hg';have ec:T8 bx g=A++ [⟨g.f1,g.f2,0,false⟩]++B:=by
  unfold T8;rw[aEq,h1]
 (have e1:g.f1=gu R:=by rw[e]);(have e2:g.f2=fl R:=by rw[e]);have ht:=c.l5;rw[←hr.all]at ht;have hN:je (gu R) [⟨g.f1,g.f2,0,false⟩] (gu R+fl R):=⟨e1,hp.1,by show gu R+g.f2=_;rw[e2]⟩;refine⟨⟨c.hi,?_,?_⟩,?_,?_⟩
 ·rw[ec];exact af8 ht hr.ne hN
 ·rw[ec,afC hr [(ai.mk g.f1 g.f2 0 false)] (by simp) (Or.inl e1)];have eg:iM fx [(ai.mk g.f1 g.f2 0 false)]= [jN R]:=by
   have eo:kZ (ai.mk g.f1 g.f2 0 false)=true:=rfl;unfold iM;simp only[fV];rw[if_pos eo,if_neg (fun c=>c.1 rfl)];have Um:fZ []= []:=rfl;(have em2:fZ [(ai.mk g.f1 g.f2 0 false)]= [jN [(ai.mk g.f1 g.f2 0 false)]]:=by unfold fZ;rw[if_neg (by simp)]);(have es:fl [(ai.mk g.f1 g.f2 0 false)]=g.f2:=by rw[rz,nN];exact Int.add_zero _);rw[Um,em2,List.nil_append,Ci (by simp),Ci hr.ne,es,←e2,←e1];rfl
  rw[eg,←aqS hr];exact c.gaps
 ·have hm:=C8 _ _ _ ht;rw[C7,C7]at ht;obtain⟨⟨ha,hb⟩,hc⟩:=ht;have s1:=tR _ _ _ ha;have s3:=tR _ _ _ hc;rw[zU]at s3;have hR:=hr.ne;have er:gu R=0+fl A:=by
   cases R with
   |nil=>exact absurd rfl hR
   |cons x R=>exact hb.1
  have:=c.hi;(have hBn:(0:Int)≤(B.length:Int):=by omega);omega
 ·rw[h2,ec]
theorem jU.clr{h:Int}{fx:List Int}{bx:List ai}(v:jU h fx bx):JC h fx (iM fx bx) bx:=⟨v.hi.2,v.l5,rfl⟩
theorem RP(l:List ai):nL [] l↔(∀b ∈ l,0≤b.f2∧b.f2≤999)∧l.Pairwise (fun a b=>0<b.f2→a.f2≠b.f2):=by
 rw[ae1];constructor
 ·rintro⟨h1,_,h3⟩;exact⟨h1,h3⟩
 ·rintro⟨h1,h3⟩;exact⟨h1,fun _ _ _=>by simp,h3⟩
theorem ae2{A N B:List ai}(hN: ∀b ∈ N,b.f2=0):nL [] (A++N++B)↔nL [] (A++B):=by
 rw[RP,RP,List.append_assoc,List.pairwise_append,List.pairwise_append,List.pairwise_append];constructor
 ·rintro⟨h1,h2,⟨_,h3,_⟩,h4⟩;refine⟨fun b hb=>h1 b ?_,h2,h3,fun a ha b hb=>h4 a ha b (by simp[hb])⟩;rcases List.mem_append.mp hb with hb|hb<;>simp[hb]
 ·rintro⟨h1,h2,h3,h4⟩;refine⟨fun b hb=>?_,h2,⟨?_,h3,fun a ha b hb h0=>?_⟩,fun a ha b hb h0=>?_⟩
  ·rcases List.mem_append.mp hb with hb|hb
   ·exact h1 b (by simp[hb])
   ·rcases List.mem_append.mp hb with hb|hb
    ·rw[hN b hb];omega
    ·exact h1 b (by simp[hb])
  ·exact List.pairwise_of_forall_mem_list (fun a ha b hb h0=>by rw[hN b hb]at h0;omega)
  ·rw[hN a ha];omega
  ·rcases List.mem_append.mp hb with hb|hb
   ·rw[hN b hb]at h0;omega
   ·exact h4 a ha b hb h0
theorem aEP{A B:List ai}{x:ai}(h:nL [] (A++B))(hx:1≤x.f2∧x.f2≤999)(hn: ∀b ∈ A++B,b.f2≠x.f2):nL [] (A++x::B):=by
 rw[RP,List.pairwise_append]at h⊢;obtain⟨h1,h2,h3,h4⟩:=h;refine⟨fun b hb=>?_,h2,List.pairwise_cons.mpr ⟨fun b hb _ e=>hn b (by simp[hb]) e.symm,h3⟩,fun a ha b hb h0=>?_⟩
 ·rcases List.mem_append.mp hb with hb|hb
  ·exact h1 b (by simp[hb])
  ·rcases List.mem_cons.mp hb with rfl|hb
   ·omega
   ·exact h1 b (by simp[hb])
 ·rcases List.mem_cons.mp hb with rfl|hb
  ·exact hn a (by simp[ha])
  ·exact h4 a ha b hb h0
theorem jU.put{h:Int}{fx:List Int}{bx A R B N:List ai}(v:jU h fx bx)(hr:sY fx bx A R B)(hN:je (gu R) N (gu R+fl R))(hne:N≠ [])(hp:nL [] (A++N++B)):jU h fx (A++N++B):=by
 have ht:=v.l5;rw[←hr.all]at ht;refine⟨v.hi,af8 ht hr.ne hN,hp,v.fix,fun f hf=>?_⟩;obtain⟨b,hb,e⟩:=v.low f hf;rw[←hr.all]at hb;rcases List.mem_append.mp hb with hb|hb
 ·rcases List.mem_append.mp hb with hb|hb
  ·exact⟨b,by simp[hb],e⟩
  ·have hfree:=hr.free;have hlo:gu R=f:=by
    cases R with
    |nil=>exact absurd rfl hr.ne
    |cons r R=>
     rcases List.mem_cons.mp hb with rfl|hb
     ·exact e
     ·exact absurd (by rw[e];exact hf) (hfree b hb)
   cases N with
   |nil=>exact absurd rfl hne
   |cons n N=>exact⟨n,by simp,by rw[hN.1,hlo]⟩
 ·exact⟨b,by simp[hb],e⟩
theorem sY.zero{fx:List Int}{bx A R B:List ai}(hr:sY fx bx A R B): ∀b ∈ R,b.f2=0:=by
 intro b hb;have:=hr.opn b hb;unfold kZ at this;simp only[Bool.and_eq_true,decide_eq_true_eq]at this;exact this.1
theorem sY.nL{h:Int}{fx:List Int}{bx A R B:List ai}(v:jU h fx bx)(hr:sY fx bx A R B):nL [] (A++B):=by
 have:=v.par;rw[←hr.all]at this;exact(ae2 hr.zero).mp this
def LF(h:Int)(fx:List Int)(bx:List ai)(p size:Int):List ai×Int×Bool:=
 match qm size (qQ h fx bx)with
 |some g=>if(1≤p∧p≤999)∧tc bx p<0 then(oF g.f1 g.f2 (iq g.f1 g.f2 p size) bx,g.f1,true)else(bx,-1,false)
 |none=>(bx,-1,false)
theorem aqg{lo sz p size:Int}(h1:1≤size)(h2:size≤sz):je lo (iq lo sz p size) (lo+sz):=by
 unfold iq;by_cases c:size<sz
 ·rw[if_pos c];exact⟨rfl,h1,rfl,by show 1≤sz-size;omega,by show lo+size+(sz-size)=_;omega⟩
 ·rw[if_neg c];exact⟨rfl,h1,by show lo+size=_;omega⟩
theorem aqC{h:Int}{fx:List Int}{bx:List ai}(v:jU h fx bx){p size:Int}{g:aZ}(hg:qm size (qQ h fx bx)=some g)(hp:1≤p∧p≤999)(hb:tc bx p<0):
  ∃A R B,sY fx bx A R B∧g=⟨0,gu R,fl R⟩∧1≤size∧size≤fl R∧0≤gu R∧gu R+fl R≤24∧(∀N,oF g.f1 g.f2 N bx=A++N++B)∧(∀N,uA g.f1 N bx (lR fx [] [] bx)=A++N++B)∧jU h fx (A++iq g.f1 g.f2 p size++B)∧(∀b ∈ A++B,b.f2≠p):=by
 obtain⟨hm,h1,h2,_⟩:=aEe hg;(have ec:qQ h fx bx=iM fx bx:=by unfold qQ;rw[if_pos ((qd _ _ _).mpr v)]);rw[ec]at hm;obtain⟨A,R,B,hr,e,f1,f2⟩:=abX fx bx 0 h v.l5 g hm;(have e1:g.f1=gu R:=by rw[e]);(have e2:g.f2=fl R:=by rw[e]);have hq:=sY.nL v hr;have hn: ∀b ∈ A++B,b.f2≠p:=by
  intro b hb';have:=(aaj bx p).mp hb (by omega) b;refine this ?_;rw[←hr.all];rcases List.mem_append.mp hb' with hb'|hb'<;>simp[hb']
 have hc:=(v.clr.step g (by exact hm)).2.1;refine⟨A,R,B,hr,e,h2,by rw[←e2];exact h1,by rw[←e1];exact hc.1,by rw[←e1,←e2];exact hc.2.2,f1,f2,v.put hr ?_ ?_ ?_,hn⟩
 ·rw[e1,e2];exact aqg h2 (by rw[←e2];exact h1)
 ·unfold iq;simp
 ·unfold iq;have hx:nL [] (A++(ai.mk g.f1 size p false)::B):=aEP hq (by exact hp) (by exact hn);(have e3:A++(ai.mk g.f1 size p false)::(if size<g.f2 then[(ai.mk (g.f1+size) (g.f2-size) 0 false)]else[])++B=(A++ [(ai.mk g.f1 size p false)])++(if size<g.f2 then[(ai.mk (g.f1+size) (g.f2-size) 0 false)]else[])++B:=by simp);rw[e3];refine(ae2 (fun b hb=>?_)).mpr (by rw[List.append_assoc];exact hx);split at hb
  ·rw[List.mem_singleton.mp hb]
  ·simp at hb
theorem aEZ{h:Int}{fx:List Int}{bx:List ai}(v:jU h fx bx)(p size:Int):jU h fx (LF h fx bx p size).1:=by
 unfold LF;cases hg:qm size (qQ h fx bx)with
 |none=>exact v
 |some g=>
  dsimp only;by_cases c:(1≤p∧p≤999)∧tc bx p<0
  ·rw[if_pos c];obtain⟨A,R,B,_,_,_,_,_,_,f1,_,hv,_⟩:=aqC v hg c.1 c.2;rw[f1];exact hv
  ·rw[if_neg c];exact v
def vr(a:Int)(bx:List ai):Prop:= ∀b ∈ bx,b.f2=0∨(a≤b.f2∧b.f2≤a+5)
theorem aEY{h:Int}{fx:List Int}{bx:List ai}{a:Int}(hp:vr a bx)(p size:Int)(h0:a≤p∧p≤a+5):vr a (LF h fx bx p size).1:=by
 unfold LF;cases hg:qm size (qQ h fx bx)with
 |none=>exact hp
 |some g=>
  dsimp only;by_cases c:(1≤p∧p≤999)∧tc bx p<0
  ·rw[if_pos c];intro b hb;unfold oF at hb;obtain⟨x,hx,hb⟩:=List.mem_flatMap.mp hb;rcases List.mem_append.mp hb with hb|hb
   ·split at hb
    ·unfold iq at hb;rcases List.mem_cons.mp hb with rfl|hb
     ·exact Or.inr h0
     ·split at hb
      ·rw[List.mem_singleton.mp hb];exact Or.inl rfl
      ·simp at hb
    ·simp at hb
   ·split at hb
    ·rw[List.mem_singleton.mp hb];exact hp x hx
    ·simp at hb
  ·rw[if_neg c];exact hp
theorem aqG{A B:List ai}{b:ai}:ah (A++b::B) (A.length:Int)=b:=by
 show(A++b::B).getD A.length _=b;rw[List.getD_eq_getElem?_getD,List.getElem?_append_right (Nat.le_refl _),Nat.sub_self];rfl
theorem aFm{A B:List ai}{b x:ai}:(A++b::B).set A.length x=A++x::B:=by
 rw[List.set_append_right _ _ (Nat.le_refl _),Nat.sub_self];rfl
theorem arG(h:Int)(fx:List Int)(bx:List ai)(p:Int):C6 h fx bx p=(bx,false)∨ ∃A b B,bx=A++b::B∧b.f2=p∧0<p∧b.f3=false∧(∀x ∈ A,x.f2≠p)∧C6 h fx bx p=(A++⟨b.f0,b.f1,0,b.f3⟩::B,true):=by
 by_cases c:hO h fx bx=true∧0<p∧0≤ki bx p 0∧(ah bx (ki bx p 0)).f3=false
 ·rcases aen bx p with⟨h1,_⟩|⟨A,b,B,h1,h2,h3,h4⟩
  ·have:=c.2.2.1;omega
  ·refine Or.inr ⟨A,b,B,h1,h2,c.2.1,?_,h3,?_⟩
   ·have:=c.2.2.2;rw[h4,h1,aqG]at this;exact this
   ·rw[arH c,h4];rw[h1,aqG,Int.toNat_natCast,aFm]
 ·exact Or.inl (Sw c)
theorem arJ: ∀(a b:List ai) (lo hi:Int),a.map (fun x=>(x.f0,x.f1))=b.map (fun x=>(x.f0,x.f1))→je lo a hi→je lo b hi
 | [],[],_,_,_,h=>h
 | [],_::_,_,_,e,_=>by simp at e
 |_::_,[],_,_,e,_=>by simp at e
 |x::a,y::b,lo,hi,e,h=>by
  simp only[List.map_cons,List.cons.injEq,Prod.mk.injEq]at e;obtain⟨⟨e1,e2⟩,e3⟩:=e;obtain⟨h1,h2,h3⟩:=h;exact⟨by rw[←e1];exact h1,by rw[←e2];exact h2,by rw[←e2];exact arJ a b _ hi e3 h3⟩
theorem aEl{a b:List ai}(e:a.map (fun x=>(x.f0,x.f1))=b.map (fun x=>(x.f0,x.f1))){f:Int}(h: ∃x ∈ a,x.f0=f): ∃x ∈ b,x.f0=f:=by
 obtain⟨x,hx,hf⟩:=h;(have:(x.f0,x.f1)∈ b.map (fun x=>(x.f0,x.f1)):=by rw[←e];exact List.mem_map.mpr ⟨x,hx,rfl⟩);obtain⟨y,hy,e2⟩:=List.mem_map.mp this;simp only[Prod.mk.injEq]at e2;exact⟨y,hy,by rw[e2.1];exact hf⟩
theorem jU.same{h:Int}{fx:List Int}{a b:List ai}(v:jU h fx a)(e:a.map (fun x=>(x.f0,x.f1))=b.map (fun x=>(x.f0,x.f1)))(hp:nL [] b):jU h fx b:=
 ⟨v.hi,arJ a b 0 h e v.l5,hp,v.fix,fun f hf=>aEl e (v.low f hf)⟩
theorem aGa{h:Int}{fx:List Int}{bx:List ai}(v:jU h fx bx)(p:Int):jU h fx (C6 h fx bx p).1:=by
 rcases arG h fx bx p with e|⟨A,b,B,h1,h2,h3,_,_,e⟩
 ·rw[e];exact v
 ·rw[e];refine v.same (by rw[h1];simp) ?_;have hv:=v.par;rw[h1]at hv;(have e2:A++(ai.mk b.f0 b.f1 0 b.f3)::B=A++ [(ai.mk b.f0 b.f1 0 b.f3)]++B:=by simp);show nL [] (A++(ai.mk b.f0 b.f1 0 b.f3)::B);rw[e2];refine(ae2 (by simp)).mpr ?_;rw[RP,List.pairwise_append]at hv⊢;obtain⟨g1,g2,g3,g4⟩:=hv;refine⟨fun x hx=>g1 x ?_,g2,(List.pairwise_cons.mp g3).2,fun a ha x hx=>g4 a ha x (by simp[hx])⟩;rcases List.mem_append.mp hx with hx|hx<;>simp[hx]
theorem aF9{h:Int}{fx:List Int}{bx:List ai}{a:Int}(hp:vr a bx)(p:Int):vr a (C6 h fx bx p).1:=by
 rcases arG h fx bx p with e|⟨A,b,B,h1,h2,h3,_,_,e⟩
 ·rw[e];exact hp
 ·rw[e];intro x hx;rcases List.mem_append.mp hx with hx|hx
  ·exact hp x (by rw[h1];simp[hx])
  ·rcases List.mem_cons.mp hx with rfl|hx
   ·exact Or.inl rfl
   ·exact hp x (by rw[h1];simp[hx])
theorem apS(unit:Int)(j:Bool): ∀(l:List ai),(CQ unit j l).1.map (fun x=>(x.f0,x.f1,x.f2))=l.map (fun x=>(x.f0,x.f1,x.f2))
 | []=>rfl
 |b::l=>by
  simp only[CQ];split
  ·rfl
  ·simp[apS unit j l]
theorem apT(h:Int)(fx:List Int)(bx:List ai)(unit:Int)(j:Bool):(Eo h fx bx unit j).1.map (fun x=>(x.f0,x.f1,x.f2))=bx.map (fun x=>(x.f0,x.f1,x.f2)):=by
 unfold Eo;split
 ·exact apS unit j bx
 ·rfl
theorem aqw{a b:List ai}(e:a.map (fun x=>(x.f0,x.f1,x.f2))=b.map (fun x=>(x.f0,x.f1,x.f2))){P:Int→Prop}(h: ∀x ∈ a,P x.f2): ∀x ∈ b,P x.f2:=by
 intro x hx;(have:(x.f0,x.f1,x.f2)∈ a.map (fun x=>(x.f0,x.f1,x.f2)):=by rw[e];exact List.mem_map.mpr ⟨x,hx,rfl⟩);obtain⟨y,hy,e2⟩:=List.mem_map.mp this;simp only[Prod.mk.injEq]at e2;rw[←e2.2.2];exact h y hy
theorem aD7{h:Int}{fx:List Int}{bx:List ai}(v:jU h fx bx)(unit:Int)(j:Bool):jU h fx (Eo h fx bx unit j).1:=by
 have e:=apT h fx bx unit j;have e1:=congrArg (List.map (fun x:Int×Int×Int=>(x.1,x.2.1))) e;rw[List.map_map,List.map_map]at e1;refine v.same e1.symm ?_;have hv:=v.par;rw[RP]at hv⊢;have e2:=congrArg (List.map (fun x:Int×Int×Int=>x.2.2)) e;rw[List.map_map,List.map_map]at e2;refine⟨aqw (P:=fun x=>0≤x∧x≤999) e.symm hv.1,?_⟩;have g:(bx.map (fun x=>x.f2)).Pairwise (fun a b=>0<b→a≠b):=List.pairwise_map.mpr hv.2;have g2:((Eo h fx bx unit j).1.map (fun x=>x.f2)).Pairwise (fun a b=>0<b→a≠b):=by
  have e3:(Eo h fx bx unit j).1.map (fun x=>x.f2)=bx.map (fun x=>x.f2):=e2;rw[e3];exact g
 exact List.pairwise_map.mp g2
theorem aD6{h:Int}{fx:List Int}{bx:List ai}{a:Int}(hp:vr a bx)(unit:Int)(j:Bool):vr a (Eo h fx bx unit j).1:=
 aqw (P:=fun x=>x=0∨(a≤x∧x≤a+5)) (apT h fx bx unit j).symm hp
theorem jU.ne{h:Int}{fx:List Int}{bx:List ai}(v:jU h fx bx):0<bx.length:=by
 cases bx with
 |nil=>
  have:=v.l5;have:=v.hi;simp only[je]at*;omega
 |cons x l=>simp
def rm:Option aZ→Int×Int×Int×Bool
 |none=>(0,0,0,false)
 |some g=>(g.f0,g.f1,g.f2,true)
theorem ap4(l:List aZ)(hl:l.length≤1048576)(size:Int): ∀(rest:List aZ) (i:Nat) (best:Option aZ),l.drop i=rest→i≤l.length→
  Ev (fun k=>oJ.l0 k size (rm best).2.2.2 l (l.length:Int) (i:Int) (rm best).1 (rm best).2.1 (rm best).2.2.1) (rm (q8 size best rest))
 | [],i,best,hd,hi=>by
  have he:=jA hd hi;refine Ev.succ ?_;simp only[oJ.l0,q8];exact Ev.neg (by omega) (Ev.ret _)
 |g::rest,i,best,hd,hi=>by
  obtain⟨h1,h2,h3⟩:=ja wv hd;have er:bX l (i:Int)=g:=h2;have ih:=fun best=>ap4 l hl size rest (i+1) best h3 (by omega);have ih1:=ih (some g);have ih0:=ih best;refine Ev.succ ?_;simp only[oJ.l0,er,q8];rw[fY i (by omega)];refine Ev.pos (by omega) (Ev.pos (by omega) (Ev.pos (by omega) ?_));by_cases c:g.f2≥size
  ·refine Ev.pos c ?_;cases best with
   |none=>
    rw[if_pos ⟨c,fun b hb=>by cases hb⟩];exact Ev.neg (by simp[rm]) ih1
   |some b=>
    refine Ev.pos (by simp[rm]) ?_;by_cases d:g.f2<b.f2
    ·rw[if_pos ⟨c,fun b' hb=>by cases hb;exact d⟩];exact Ev.pos d ih1
    ·rw[if_neg (fun e=>d (e.2 b rfl))];exact Ev.neg d ih0
  ·rw[if_neg (fun e=>c e.1)];exact Ev.neg c ih0
theorem aEi(l:List aZ)(hl:l.length≤1048576)(size:Int):Ev (fun k=>oJ.f k l size) (rm (qm size l)):=by
 unfold oJ.f qm;by_cases c:size<1
 ·rw[if_pos c];exact Ev.pos c (Ev.ret _)
 ·rw[if_neg c];exact Ev.neg c (ap4 l hl size l 0 none rfl (by omega))
structure sU(size:Int)(l l1:List aZ)(g:aZ)(l2:List aZ):Prop where
 all:l=l1++g::l2
 enough:size≤g.f2
 ahead: ∀x ∈ l1,x.f2<size∨g.f2<x.f2
 behind: ∀x ∈ l2,x.f2<size∨g.f2≤x.f2
theorem sU.uniq{size:Int}: ∀{l1 RH:List aZ} {l:List aZ} {g g':aZ} {l2 HE:List aZ},sU size l l1 g l2→sU size l RH g' HE→l1=RH∧g=g'∧l2=HE
 | [],[],l,g,g',l2,HE,h,h'=>by
  have e:=h.all.symm.trans h'.all;simp at e;exact⟨rfl,e.1,e.2⟩
 | [],x::RH,l,g,g',l2,HE,h,h'=>by
  have e:=h.all.symm.trans h'.all;simp at e;have a:=h'.ahead x (by simp);have b:=h.behind g' (by rw[e.2];simp);have c:=h.enough;have d:=h'.enough;rw[←e.1]at a;omega
 |x::l1,[],l,g,g',l2,HE,h,h'=>by
  have e:=h.all.symm.trans h'.all;simp at e;have a:=h.ahead x (by simp);have b:=h'.behind g (by rw[←e.2];simp);have c:=h.enough;have d:=h'.enough;rw[e.1]at a;omega
 |x::l1,y::RH,l,g,g',l2,HE,h,h'=>by
  have e:=h.all.symm.trans h'.all;simp at e;have k:sU size (l1++g::l2) l1 g l2:=⟨rfl,h.enough,fun z hz=>h.ahead z (by simp[hz]),h.behind⟩;have k':sU size (l1++g::l2) RH g' HE:=⟨e.2,h'.enough,fun z hz=>h'.ahead z (by simp[hz]),h'.behind⟩;obtain⟨a,b,c⟩:=sU.uniq k k';exact⟨by rw[e.1,a],b,c⟩
theorem aEg{size:Int}{l l1:List aZ}{g:aZ}{l2:List aZ}(h:sU size l l1 g l2):q8 size none l=some g:=by
 rcases RI size l with⟨_,h2⟩|⟨k1,y,k2,h0,h1,h2,h4,h5⟩
 ·have:=h2 g (by rw[h.all];simp);have:=h.enough;omega
 ·obtain⟨_,e,_⟩:=sU.uniq h ⟨h0,h2,h4,h5⟩;rw[h1,e]
theorem aEh{size:Int}{l:List aZ}(h: ∀x ∈ l,x.f2<size):q8 size none l=none:=by
 rcases RI size l with⟨h1,_⟩|⟨k1,y,k2,h0,h1,h2,h4,h5⟩
 ·exact h1
 ·have:=h y (by rw[h0];simp);omega
theorem ap3(l:List aZ)(hl:l.length≤1048576)(size:Int): ∀(rest:List aZ) (i:Nat) (x:Int),l.drop i=rest→i≤l.length→
  ((x= -1∧ ∀y ∈ l.take i,y.f2<size)∨ ∃l1 g l2,sU size (l.take i) l1 g l2∧x=(l1.length:Int))→
  ∃r:Int,Ev (fun k=>lV.l0 k l size x (i:Int)) r∧((r= -1∧ ∀y ∈ l,y.f2<size)∨ ∃l1 g l2,sU size l l1 g l2∧r=(l1.length:Int))
 | [],i,x,hd,hi,hx=>by
  have he:=jA hd hi;refine⟨x,Ev.succ ?_,?_⟩
  ·simp only[lV.l0];exact Ev.neg (by omega) (Ev.ret _)
  ·rw[he,List.take_length]at hx;exact hx
 |g::rest,i,x,hd,hi,hx=>by
  obtain⟨h1,h2,h3⟩:=ja wv hd;have er:bX l (i:Int)=g:=h2;have et:l.take (i+1)=l.take i++ [g]:=by
   rw[List.take_add_one,←h2,List.getD_eq_getElem?_getD,List.getElem?_eq_getElem h1];rfl
  have ih:=fun y=>ap3 l hl size rest (i+1) y h3 (by omega);have new:size≤g.f2→(∀y ∈ l.take i,y.f2<size∨g.f2<y.f2)→((i:Int)= -1∧ ∀y ∈ l.take (i+1),y.f2<size)∨ ∃l1 g' l2,sU size (l.take (i+1)) l1 g' l2∧(i:Int)=(l1.length:Int):=by
   intro a b;exact Or.inr ⟨l.take i,g,[],⟨et,a,b,by simp⟩,by rw[List.length_take];omega⟩
  rcases hx with⟨hx,hn⟩|⟨l1,b,l2,hb,hx⟩
  ·by_cases c:g.f2≥size
   ·obtain⟨r,hr,hp⟩:=ih (i:Int) (new c (fun y hy=>Or.inl (hn y hy)));refine⟨r,Ev.succ ?_,hp⟩;simp only[lV.l0,er];rw[fY i (by omega)];exact Ev.pos (by omega) (Ev.pos (by omega) (Ev.pos c (Ev.pos (by omega) hr)))
   ·obtain⟨r,hr,hp⟩:=ih x (Or.inl ⟨hx,fun y hy=>by
     rw[et]at hy;rcases List.mem_append.mp hy with hy|hy
     ·exact hn y hy
     ·rw[List.mem_singleton.mp hy];omega⟩)
    refine⟨r,Ev.succ ?_,hp⟩;simp only[lV.l0,er];rw[fY i (by omega)];exact Ev.pos (by omega) (Ev.pos (by omega) (Ev.neg c hr))
  ·have hlen:l1.length<i:=by
    have:=congrArg List.length hb.all;rw[List.length_take]at this;simp at this;omega
   have eb:bX l x=b:=by
    rw[hx];show l.getD l1.length _=b;have e1:l.getD l1.length wv=(l.take i).getD l1.length wv:=by
     rw[List.getD_eq_getElem?_getD,List.getD_eq_getElem?_getD,List.getElem?_take_of_lt hlen]
    rw[e1,hb.all,List.getD_eq_getElem?_getD,List.getElem?_append_right (Nat.le_refl _),Nat.sub_self];rfl
   have old:(g.f2<size∨b.f2≤g.f2)→(x= -1∧ ∀y ∈ l.take (i+1),y.f2<size)∨ ∃l1 g' l2,sU size (l.take (i+1)) l1 g' l2∧x=(l1.length:Int):=by
    intro a;refine Or.inr ⟨l1,b,l2++ [g],⟨by rw[et,hb.all];simp,hb.enough,hb.ahead,fun y hy=>?_⟩,hx⟩;rcases List.mem_append.mp hy with hy|hy
    ·exact hb.behind y hy
    ·rw[List.mem_singleton.mp hy];exact a
   by_cases c:g.f2≥size
   ·by_cases d:g.f2<b.f2
    ·obtain⟨r,hr,hp⟩:=ih (i:Int) (new c (fun y hy=>by
      rw[hb.all]at hy;rcases List.mem_append.mp hy with hy|hy
      ·have:=hb.ahead y hy;omega
      ·rcases List.mem_cons.mp hy with rfl|hy
       ·exact Or.inr d
       ·have:=hb.behind y hy;omega))
     refine⟨r,Ev.succ ?_,hp⟩;simp only[lV.l0,er,eb];rw[fY i (by omega)];exact Ev.pos (by omega) (Ev.pos (by omega) (Ev.pos c (Ev.neg (by omega) (Ev.pos (by omega) (Ev.pos (by omega) (Ev.pos d hr))))))
    ·obtain⟨r,hr,hp⟩:=ih x (old (by omega));refine⟨r,Ev.succ ?_,hp⟩;simp only[lV.l0,er,eb];rw[fY i (by omega)];exact Ev.pos (by omega) (Ev.pos (by omega) (Ev.pos c (Ev.neg (by omega) (Ev.pos (by omega) (Ev.pos (by omega) (Ev.neg d hr))))))
   ·obtain⟨r,hr,hp⟩:=ih x (old (by omega));refine⟨r,Ev.succ ?_,hp⟩;simp only[lV.l0,er];rw[fY i (by omega)];exact Ev.pos (by omega) (Ev.pos (by omega) (Ev.neg c hr))
theorem aEf(l:List aZ)(hl:l.length≤1048576)(size:Int): ∃r:Int,Ev (fun k=>lV.f k l size) r∧((r= -1∧ ∀y ∈ l,y.f2<size)∨ ∃l1 g l2,sU size l l1 g l2∧r=(l1.length:Int)):=by
 unfold lV.f;exact ap3 l hl size l 0 (-1) rfl (by omega) (Or.inl ⟨rfl,by simp⟩)
theorem azx(l:List aZ)(hl:l.length≤1048576)(size:Int): ∃r:Int,Ev (fun k=>lV.f k l size) r∧
  Ev (fun _=>if size<1 then some (0,0,0,false)else(if r<0 then some (0,0,0,false)else(if 0≤r then(if r<(l.length:Int)then some ((bX l r).f0,(bX l r).f1,(bX l r).f2,true)else none)else none))) (rm (qm size l)):=by
 obtain⟨r,h1,h2⟩:=aEf l hl size;refine⟨r,h1,?_⟩;by_cases c:size<1
 ·(have e:qm size l=none:=by unfold qm;rw[if_pos c]);rw[e];exact Ev.pos c (Ev.ret _)
 ·refine Ev.neg c ?_;(have e:qm size l=q8 size none l:=by unfold qm;rw[if_neg c]);rw[e];rcases h2 with⟨h2,h3⟩|⟨l1,g,l2,h2,h3⟩
  ·rw[aEh h3];exact Ev.pos (by omega) (Ev.ret _)
  ·rw[aEg h2];have hlen:=congrArg List.length h2.all;simp at hlen;have eb:bX l r=g:=by
    rw[h3];show l.getD l1.length _=g;rw[h2.all,List.getD_eq_getElem?_getD,List.getElem?_append_right (Nat.le_refl _),Nat.sub_self];rfl
   rw[eb];exact Ev.neg (by omega) (Ev.pos (by omega) (Ev.pos (by omega) (Ev.ret _)))
theorem azw(h:Int)(fx:List Int)(hf:fx.length≤1048576)(bx:List ai)(hb:bx.length≤1048576)(size:Int):Ev (fun k=>I6.f k h fx bx size) (rm (qm size (qQ h fx bx))):=by
 unfold I6.f;refine Ev.bind (ak3 h fx hf bx hb) ?_;have:=azz h fx bx;obtain⟨r,h1,h2⟩:=azx (qQ h fx bx) (by omega) size;exact Ev.bind h1 h2
end Go.Proofs.Ytbpjidekjogfeaa.A
