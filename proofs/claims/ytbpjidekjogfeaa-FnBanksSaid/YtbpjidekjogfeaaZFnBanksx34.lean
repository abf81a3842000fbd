/- Used by the law FnBanks. -/
import Derived.Test.YtbpjidekjogfeaaZFnBanksx33
import Derived.Test.YtbpjidekjogfeaaZFnBanksx31
namespace Go.Proofs.Ytbpjidekjogfeaa.A
open Go.RowKit Go.Proofs.YtbpjidekjogfeaaW.cN Go.Proofs.YtbpjidekjogfeaaW.dV Go.Proofs.YtbpjidekjogfeaaW.eF
set_option linter.unusedVariables false
set_option linter.unusedSimpArgs false
theorem aFn(l:List ai)(hl:l.length≤1048576):Ev (fun k=>rU.f k l l) true:=Ev.mk l.length (fun k hk=>by
 unfold rU.f;rw[if_pos rfl];have h:=ajr (L:=fun k i=>rU.l0 k l l i) (n:=l.length) (P:=fun _=>true) (fun k i hi=>?_) (fun k=>?_) l.length k 0 (by omega) hk
 ·(have e:(List.range' 0 l.length).all (fun _=>true)=true:=by simp);rw[e]at h;exact h
 ·simp only[rU.l0];rw[if_pos (by omega),if_pos (by omega),if_pos (by omega),if_neg (by simp),jw i (by omega)];simp only[if_true]
 ·simp only[rU.l0];rw[if_neg (by omega)])
theorem aFo(h:Int)(fx:List Int)(bx:List ai)(hf:fx.length≤1048576)(hb:bx.length≤1048576):Ev (fun k=>IA.f k h fx bx h fx bx) true:=by
 unfold IA.f;exact Ev.pos rfl (Ev.bind (aFp fx hf) (Ev.pos (by trivial) (Ev.bind (aFn bx hb) (Ev.ret _))))
def qo:List br→Int
 | []=>0
 |g::l=>g.f2+qo l
theorem Xp: ∀(a b:List br),qo (a++b)=qo a+qo b
 | [],b=>by simp[qo]
 |g::a,b=>by rw[List.cons_append,qo,qo,Xp a b];omega
theorem aqM(l:List br)(hl:l.length≤1000)(hp: ∀g ∈ l,0≤g.f2∧g.f2≤1000): ∀(rest:List br) (i:Nat) (n:Int),l.drop i=rest→i≤l.length→0≤n→n≤1000*i→Ev (fun k=>nX.l0 k l n (i:Int)) (n+qo rest)
 | [],i,n,hd,hi,h0,h1=>by
  have he:=l9 hd hi;refine Ev.succ ?_;simp only[nX.l0];exact Ev.neg (by omega) ((Ev.ret _).to (by simp[qo]))
 |g::rest,i,n,hd,hi,h0,h1=>by
  obtain⟨h2,h3,h4⟩:=mb xR hd;have er:cu l (i:Int)=g:=h3;(have hg:g ∈ l:=by rw[←h3,qe _ h2];exact List.getElem_mem _);have h5:=hp g hg;refine Ev.succ ?_;simp only[nX.l0,er];rw[jw i (by omega),wid (n+g.f2) (by omega) (by omega)];refine Ev.pos (by omega) (Ev.pos (by omega) ((aqM l hl hp rest (i+1) _ h4 (by omega) (by omega) (by omega)).to ?_));rw[qo];omega
theorem aFj(l:List br)(hl:l.length≤1000)(hp: ∀g ∈ l,0≤g.f2∧g.f2≤1000):Ev (fun k=>nX.f k l) (qo l):=by
 unfold nX.f;exact(aqM l hl hp l 0 0 rfl (by omega) (by omega) (by omega)).to (by omega)
def oW:List ai→Int
 | []=>0
 |b::l=>(if kj b=true then b.f1 else 0)+oW l
theorem UU(fx:List Int): ∀(bs cur:List ai),qo (fR fx cur bs)=eP cur+oW bs
 | [],cur=>by
  simp only[fR,fY,oW];split
  ·next h=>subst h;rfl
  ·next h=>rw[yJ h];show eP cur+0=_;rfl
 |b::bs,cur=>by
  have em:qo (fY cur)=eP cur:=by
   unfold fY;split
   ·next h=>subst h;rfl
   ·next h=>rw[yJ h];exact Int.add_zero _
  (have sb:eP [b]=b.f1:=by rw[qq,m6];omega);simp only[fR,oW];split
  ·next hb=>
   split
   ·rw[UU fx bs (cur++ [b]),xG,sb];omega
   ·rw[Xp,em,UU fx bs [b],sb]
  ·rw[Xp,em,UU fx bs [],m6]
theorem azk(fx:List Int)(bx:List ai):qo (iK fx bx)=oW bx:=by
 unfold iK;rw[UU,m6];omega
theorem RR: ∀(a b:List ai),oW (a++b)=oW a+oW b
 | [],b=>by simp[oW]
 |x::a,b=>by rw[List.cons_append,oW,oW,RR a b];omega
theorem aqr: ∀(l:List ai),(∀b ∈ l,kj b=true)→oW l=eP l
 | [],_=>rfl
 |b::l,h=>by
  rw[oW,qq,if_pos (h b (by simp)),aqr l (fun x hx=>h x (by simp[hx]))]
theorem aqR(cs:List aT)(hs:Small cs): ∀(rest:List aT) (i:Nat),cs.drop i=rest→i≤cs.length→Ev (fun k=>jj.l0 k cs cs (i:Int)) true
 | [],i,hd,hi=>by
  have he:=l9 hd hi;refine Ev.succ ?_;simp only[jj.l0];exact Ev.neg (by omega) (Ev.ret _)
 |c::rest,i,hd,hi=>by
  obtain⟨h1,h2,h3⟩:=mb jW hd;have er:av cs (i:Int)=c:=h2;(have hc:c ∈ cs:=by rw[←h2,qe _ h1];exact List.getElem_mem _);have hl:=hs.1;have hm:=hs.2 c hc;refine Ev.succ ?_;simp only[jj.l0,er];rw[jw i (by omega)];exact Ev.pos (by omega) (Ev.pos (by omega) (Ev.pos (by omega) (Ev.bind (aFo c.f0 c.f1 c.f2 hm.1 hm.2) (Ev.pos (by trivial) (aqR cs hs rest (i+1) h3 (by omega))))))
theorem aqQ(cs:List aT)(hs:Small cs):Ev (fun k=>jj.f k cs cs) true:=by
 unfold jj.f;exact Ev.pos rfl (aqR cs hs cs 0 rfl (by omega))
theorem awU(l:List Int)(hl:l.length≤140737488351232): ∃cs p s,Ev (fun k=>DM.f k l) (cs,p,s)∧Small cs:=by
 obtain⟨y0,e0⟩:=aEF l hl;obtain⟨cs,i1,y1,e1,h1,c1⟩:=awM l hl 0 y0 (by omega);obtain⟨p,i2,y2,e2,_,c2⟩:=Xg l hl i1 y1 [1,2,8,14,20,30,999,1000,0] (by simp) c1;obtain⟨s,i3,y3,e3,_⟩:=tw l hl i2 y2 6 c2;refine⟨cs,p,s,?_,h1⟩;unfold DM.f;exact Ev.bind e0 (Ev.bind e1 (Ev.bind (Ev.const e2) (Ev.bind (Ev.const e3) (Ev.ret _))))
def sM:List aT→Int
 | []=>0
 |c::cs=>oW c.f2+sM cs
theorem aei: ∀(a b:List aT),sM (a++b)=sM a+sM b
 | [],b=>by simp[sM]
 |c::a,b=>by rw[List.cons_append,sM,sM,aei a b];omega
theorem aqN(k:Int): ∀(l:List br),qo (l.map (fun g=>(br.mk k g.f1 g.f2)))=qo l
 | []=>rfl
 |g::l=>by rw[List.map_cons,qo,qo,aqN k l]
theorem ajH: ∀(cs:List aT) (k:Int),qo (ij k cs)=sM cs
 | [],_=>rfl
 |c::cs,k=>by rw[ij,Xp,aqN,azk,sM,ajH cs (k+1)]
theorem ajJ{cs:List aT}(hb:lZ cs=true):Ev (fun k=>nX.f k (k8 cs)) (sM cs):=by
 have hl:=TM cs;refine(aFj (k8 cs) (by omega) (fun g hg=>by have:=awS cs g hg;omega)).to ?_;unfold k8;rw[if_pos hb,ajH]
theorem apW: ∀(A:List ai) (x:ai) (r:List ai) (p i:Int),(∀y ∈ A,y.f2≠p)→x.f2=p→eO (A++x::r) p i=i+A.length
 | [],x,r,p,i,_,hx=>by
  rw[List.nil_append,eO,if_pos hx];simp
 |a::A,x,r,p,i,hA,hx=>by
  rw[List.cons_append,eO,if_neg (hA a (by simp)),apW A x r p (i+1) (fun y hy=>hA y (by simp[hy])) hx,List.length_cons];omega
theorem TQ(l:List ai){q:Int}(hq:1≤q):(jx l q<0∧l.find? (fun b=>decide (b.f2=q))=none)∨(0≤jx l q∧l.find? (fun b=>decide (b.f2=q))=some (ah l (jx l q))):=by
 (have e:jx l q=eO l q 0:=by unfold jx;rw[if_pos (by omega)]);rw[e];rcases Ip l q with⟨h1,h2⟩|⟨l1,b,l2,h1,h2,h3,h4⟩
 ·refine Or.inl ⟨by omega,?_⟩;rw[List.find?_eq_none];intro x hx;simpa using h2 x hx
 ·refine Or.inr ⟨by omega,?_⟩;rw[h4,h1,LG,List.find?_append];have:l1.find? (fun b=>decide (b.f2=q))=none:=by
   rw[List.find?_eq_none];intro x hx;simpa using h3 x hx
  rw[this];simp[h2]
theorem azi{A R N B:List ai}{q:Int}(hR: ∀b ∈ R,b.f2≠q)(hN: ∀b ∈ N,b.f2≠q):(A++R++B).find? (fun b=>decide (b.f2=q))=(A++N++B).find? (fun b=>decide (b.f2=q)):=by
 have h1:R.find? (fun b=>decide (b.f2=q))=none:=by
  rw[List.find?_eq_none];intro x hx;simpa using hR x hx
 have h2:N.find? (fun b=>decide (b.f2=q))=none:=by
  rw[List.find?_eq_none];intro x hx;simpa using hN x hx
 rw[List.find?_append,List.find?_append,List.find?_append,List.find?_append,h1,h2]
theorem ak4{c d:aT}{q:Int}(hq:1≤q)(h:c.f2.find? (fun b=>decide (b.f2=q))=d.f2.find? (fun b=>decide (b.f2=q)))(C2:List aT): ∀(C1:List aT) (i:Int),qK (C1++c::C2) q i=qK (C1++d::C2) q i
 | [],i=>by
  rw[List.nil_append,List.nil_append,qK,qK];rcases TQ c.f2 hq with⟨a1,a2⟩|⟨a1,a2⟩<;>rcases TQ d.f2 hq with⟨b1,b2⟩|⟨b1,b2⟩
  ·rw[if_neg (by omega),if_neg (by omega)]
  ·rw[a2,b2]at h;exact absurd h (by simp)
  ·rw[a2,b2]at h;exact absurd h (by simp)
  ·rw[a2,b2]at h;rw[if_pos a1,if_pos b1,Option.some.inj h]
 |x::C1,i=>by
  rw[List.cons_append,List.cons_append,qK,qK,ak4 hq h C2 C1 (i+1)]
def l8(g:br)(s:Int)(c:aT)(A B:List ai)(q:Int):aT:=⟨c.f0,c.f1,A++eC g.f1 g.f2 q s++B⟩
theorem aed{lo sz q s:Int}{b:ai}(h:b ∈ eC lo sz q s):b.f2=q∨b.f2=0:=by
 unfold eC at h;rcases List.mem_cons.mp h with rfl|h
 ·exact Or.inl rfl
 ·split at h
  ·rw[List.mem_singleton.mp h];exact Or.inr rfl
  ·exact absurd h (by simp)
theorem ajN{C1 C2:List aT}{c d:aT}{p:Int}(v:xY (C1++c::C2))(hd:hO d.f0 d.f1 d.f2=true)(hn: ∀x ∈ C1++c::C2,∀b ∈ x.f2,b.f2≠p)(hm: ∀b ∈ d.f2,b.f2=0∨b.f2=p∨b ∈ c.f2):xY (C1++d::C2):=by
 obtain⟨h1,h2,h3⟩:=v;refine⟨by simpa using h1,fun x hx=>?_,?_⟩
 ·rcases List.mem_append.mp hx with hx|hx
  ·exact h2 x (by simp[hx])
  ·rcases List.mem_cons.mp hx with rfl|hx
   ·exact hd
   ·exact h2 x (by simp[hx])
 ·rw[List.pairwise_append,List.pairwise_cons]at h3⊢;obtain⟨k1,⟨k2,k3⟩,k4⟩:=h3;refine⟨k1,⟨fun y hy a ha b hb h0=>?_,k3⟩,fun x hx y hy=>?_⟩
  ·rcases hm a ha with e|e|e
   ·omega
   ·rw[e];exact fun e2=>hn y (by simp[hy]) b hb e2.symm
   ·exact k2 y hy a e b hb h0
  ·rcases List.mem_cons.mp hy with rfl|hy
   ·intro a ha b hb h0;rcases hm b hb with e|e|e
    ·omega
    ·rw[e];exact hn x (by simp[hx]) a ha
    ·exact k4 x hx c (by simp) a ha b e h0
   ·exact k4 x hx y (by simp[hy])
theorem aE5{cs:List aT}(hs:Small cs){p s:Int}{g:br}(hl:lq s (k8 cs)=some g)(hp:1≤p∧p≤999)(hx:(mC cs p).1<0):
  ∃C1 c C2 A R B,cs=C1++c::C2∧g.f0=C1.length∧A++R++B=c.f2∧(∀b ∈ R,b.f2=0)∧(∀b ∈ R,kj b=true)∧g.f2=eP R∧(1≤s∧s≤g.f2)∧(∀x ∈ cs,∀b ∈ x.f2,b.f2≠p)∧
   rY cs p s=(C1++l8 g s c A B p::C2,g.f0,g.f1,s,true)∧xY cs∧xY (C1++l8 g s c A B p::C2)∧xY (C1++l8 g s c A B 0::C2)∧jI c.f0 c.f1 (A++eC g.f1 g.f2 p s++B)∧mC cs p=(-1,-1):=by
 obtain⟨hm,hle,hs1,_⟩:=W5 hl;obtain⟨hb,hm⟩:=ajA hm;have v:=(CG cs).mp hb;have Pv:=v.geo hs;obtain⟨C1,c,C2,P,Q,A,R,B,h,e1,e2,e3,e4,e5,e6,e7,e8,e9,e10,e11,UB,e13⟩:=ajM Pv hm (p:=p) (s:=s) (by omega) hs1 hle;(have hc:c ∈ cs:=by rw[e1];simp);(have er:av cs g.f0=c:=by rw[e1];exact R4 e2);have ei:=ajV hb hp.1;have hno: ∀x ∈ cs,∀b ∈ x.f2,b.f2≠p:=by
  rcases WS cs p 0 (Int.le_refl _)with⟨h1,h2⟩|⟨l1,y,l2,h1,h2,h3,h4⟩
  ·intro x Qx b aU;rcases Ip x.f2 p with⟨_,q2⟩|⟨l1,y,l2,q1,q2,q3,q4⟩
   ·exact q2 b aU
   ·have:=h2 x Qx;omega
  ·omega
 have eno:mC cs p=(-1,-1):=by
  unfold mC;rw[if_pos hb,Ob cs p 0 (fun x Qx=>by
   rcases TQ x.f2 hp.1 with⟨a1,_⟩|⟨_,a2⟩
   ·exact a1
   ·have m:=List.mem_of_find?_eq_some a2;have q:=List.find?_some a2;exact absurd (of_decide_eq_true q) (hno x Qx _ m))]
 have vc:=(nO _ _ _).mp (v.col c hc);(have hN: ∀q,jl (gx R) (eC g.f1 g.f2 q s) (gx R+eP R):=fun q=>by rw[←e9,←e10];exact aee hs1 hle);have hAB:=sB.mF vc e8;(have hne: ∀q,eC g.f1 g.f2 q s≠ []:=fun q=>by unfold eC;simp);have ayN:mF [] (A++eC g.f1 g.f2 0 s++B):=(RW (fun b aU=>(aed aU).elim id id)).mpr hAB;have ayO:mF [] (A++eC g.f1 g.f2 p s++B):=by
  have en:eC g.f1 g.f2 p s=(ai.mk g.f1 s p false)::(if s<g.f2 then[(ai.mk (g.f1+s) (g.f2-s) 0 false)]else[]):=rfl;generalize hrest:(if s<g.f2 then[(ai.mk (g.f1+s) (g.f2-s) 0 false)]else[])=rest at en;(have h0: ∀b ∈ rest,b.f2=0:=by rw[←hrest];split<;>simp);(have hmid:mF [] (A++(rest++B)):=by rw[←List.append_assoc];exact(RW h0).mpr hAB);rw[en,List.append_assoc,List.cons_append];refine aqx hmid hp (fun b aU=>?_);show b.f2≠p;rcases List.mem_append.mp aU with aU|aU
  ·exact hno c hc b (by rw[←e8.all];simp[aU])
  ·rcases List.mem_append.mp aU with aU|aU
   ·rw[h0 b aU];omega
   ·exact hno c hc b (by rw[←e8.all];simp[aU])
 have vP:=vc.put e8 (hN p) (hne p) ayO;have v0:=vc.put e8 (hN 0) (hne 0) ayN;have hmem: ∀q,(q=p∨q=0)→ ∀b ∈(l8 g s c A B q).f2,b.f2=0∨b.f2=p∨b ∈ c.f2:=by
  intro q hq b aU;have aU:b ∈ A++eC g.f1 g.f2 q s++B:=aU;rcases List.mem_append.mp aU with aU|aU
  ·rcases List.mem_append.mp aU with aU|aU
   ·exact Or.inr (Or.inr (by rw[←e8.all];simp[aU]))
   ·rcases aed aU with e|e<;>rcases hq with rfl|rfl
    ·exact Or.inr (Or.inl e)
    ·exact Or.inl e
    ·exact Or.inl e
    ·exact Or.inl e
  ·exact Or.inr (Or.inr (by rw[←e8.all];simp[aU]))
 rw[e1]at v;have adr:=hno;rw[e1]at adr;refine⟨C1,c,C2,A,R,B,e1,e2,e8.all,e8.zero,e8.opn,e10,⟨hs1,hle⟩,hno,?_,by rw[e1];exact v,ajN v ((nO _ _ _).mpr vP) adr (hmem p (Or.inl rfl)),ajN v ((nO _ _ _).mpr v0) adr (hmem 0 (Or.inr rfl)),vP,eno⟩;unfold rY;rw[hl];dsimp only;rw[if_pos ⟨hp,hx⟩,er];have ec:tU g p s c=l8 g s c A B p:=by
  have:(tU g p s c).f2=(l8 g s c A B p).f2:=UB;unfold tU at this⊢;unfold l8 at this⊢;dsimp only at this;rw[this]
 rw[ec];(have es:cs.set g.f0.toNat (l8 g s c A B p)=C1++l8 g s c A B p::C2:=by rw[e1];exact aqT e2);rw[es]
theorem apU: ∀(C1:List aT) (c:aT) (C2:List aT) (p i:Int),(∀x ∈ C1,∀b ∈ x.f2,b.f2≠p)→0≤eO c.f2 p 0→oT (C1++c::C2) p i=i+C1.length
 | [],c,C2,p,i,_,h=>by
  rw[List.nil_append,oT,if_pos h];simp
 |x::C1,c,C2,p,i,hn,h=>by
  have hx:eO x.f2 p 0<0:=by
   rcases Ip x.f2 p with⟨h1,_⟩|⟨l1,b,l2,h1,h2,_,_⟩
   ·omega
   ·exact absurd h2 (hn x (by simp) b (by rw[h1];simp))
  rw[List.cons_append,oT,if_neg (by omega),apU C1 c C2 p (i+1) (fun y hy=>hn y (by simp[hy])) h,List.length_cons];omega
theorem aED(A B:List ai)(g:br)(s:Int): ∃rest:List ai,∀q,A++eC g.f1 g.f2 q s++B=A++(ai.mk g.f1 s q false)::(rest++B):=
 ⟨if s<g.f2 then[(ai.mk (g.f1+s) (g.f2-s) 0 false)]else[],fun q=>by
  have en:eC g.f1 g.f2 q s=(ai.mk g.f1 s q false)::(if s<g.f2 then[(ai.mk (g.f1+s) (g.f2-s) 0 false)]else[]):=rfl;rw[en];simp⟩
theorem aru{h:Int}{fx:List Int}{A B:List ai}{g:br}{s p:Int}(v:jI h fx (A++eC g.f1 g.f2 p s++B))(hp:1≤p)(hA: ∀b ∈ A,b.f2≠p):eO (A++eC g.f1 g.f2 p s++B) p 0=A.length∧(ah (A++eC g.f1 g.f2 p s++B) (A.length:Int)).f0=g.f1∧Ad h fx (A++eC g.f1 g.f2 p s++B) p=(A++eC g.f1 g.f2 0 s++B,true):=by
 obtain⟨rest,e⟩:=aED A B g s;rw[e]at v⊢;rw[e 0];(have idx:eO (A++(ai.mk g.f1 s p false)::(rest++B)) p 0=A.length:=by rw[apW A _ _ p 0 hA rfl];omega);refine⟨idx,by rw[LG],?_⟩;rw[XP ⟨(nO _ _ _).mpr v,by omega,by rw[idx];omega,by rw[idx,LG]⟩,idx,LG,Int.toNat_natCast,aqS]
theorem aEJ{lo sz s:Int}(h:s≤sz):oW (eC lo sz 0 s)=sz:=by
 have o: ∀(a b:Int),kj (ai.mk a b 0 false)=true:=fun _ _=>rfl;unfold eC;split
 ·rw[oW,oW,oW,if_pos (o _ _),if_pos (o _ _)];dsimp only;omega
 ·rw[oW,oW,if_pos (o _ _)];dsimp only;omega
theorem ale(cs y:List aT)(p s:Int)(g:br)(gs:List br)(hg:gs.length≤1000)(hmin: ∀x ∈ gs,s≤x.f2→g.f2≤x.f2)(fin:Ev (fun k=>jd.l1 k cs p s y true 1 g.f0 g.f1 g.f2) true): ∀(rest:List br) (i:Nat),gs.drop i=rest→i≤gs.length→Ev (fun k=>jd.l0 k cs p s y true gs (i:Int) g.f0 g.f1 g.f2) true
 | [],i,hd,hi=>by
  have he:=l9 hd hi;refine Ev.succ ?_;simp only[jd.l0];exact Ev.neg (by omega) fin
 |x::rest,i,hd,hi=>by
  obtain⟨h1,h2,h3⟩:=mb xR hd;have er:cu gs (i:Int)=x:=h2;(have hx:x ∈ gs:=by rw[←h2,qe _ h1];exact List.getElem_mem _);have ih:=ale cs y p s g gs hg hmin fin rest (i+1) h3 (by omega);refine Ev.succ ?_;simp only[jd.l0,er];rw[jw i (by omega)];refine Ev.pos (by omega) (Ev.pos (by omega) ?_);by_cases c:x.f2≥s
  ·have:=hmin x hx c;exact Ev.pos c (Ev.neg (by omega) ih)
  ·exact Ev.neg c ih
theorem aj2(cs y z:List aT)(hc:Small cs)(hz:Small z)(p s:Int)(g:br)(hsg:s≤g.f2)(hq: ∀q,1≤q→q≠p→mC y q=mC cs q)(h1:mC cs p=(-1,-1))(h2:mC y p=(g.f0,g.f1))(hT:Ev (fun k=>DE.f k y p) (z,true))
  (bc:lZ cs=true) (bY:lZ y=true) (bZ:lZ z=true) (ho:sM z=sM cs): ∀(d:Nat) (q:Int),1≤q→q+d=31→Ev (fun k=>jd.l1 k cs p s y true q g.f0 g.f1 g.f2) true
 |0,q,a,b=>by
  refine Ev.succ ?_;simp only[jd.l1];refine Ev.neg (by omega) (Ev.bind hT (Ev.pos (by trivial) (Ev.pos (by omega) (Ev.pos (by trivial) ?_))));refine Ev.bind (Ev.const (show iE.f y=some true from congrArg some bY)) (Ev.pos rfl (Ev.bind (Ev.const (show iE.f z=some true from congrArg some bZ)) (Ev.pos rfl ?_)));refine Ev.bind (aae z hz) (Ev.bind (ajJ bZ) (Ev.bind (aae cs hc) (Ev.bind (ajJ bc) ((Ev.ret _).to ?_))));rw[ho];simp
 |d+1,q,a,b=>by
  have ih:=aj2 cs y z hc hz p s g hsg hq h1 h2 hT bc bY bZ ho d (q+1) (by omega) (by omega);refine Ev.succ ?_;simp only[jd.l1];rw[wid (q+1) (by omega) (by omega)];refine Ev.pos (by omega) (Ev.bind (ajX cs q) (Ev.bind (ajX y q) ?_));by_cases cq:q=p
  ·subst cq;rw[h1,h2];exact Ev.pos (by trivial) (Ev.pos (by trivial) (Ev.pos (by trivial) (Ev.pos (by trivial) ih)))
  ·rw[hq q a cq];exact Ev.neg cq (Ev.pos rfl (Ev.pos rfl ih))
theorem aF9{C1 C2:List aT}{c:aT}{A B:List ai}{g:br}{s p:Int}(hs:Small (C1++l8 g s c A B p::C2))(hb:lZ (C1++l8 g s c A B p::C2)=true)(v:jI c.f0 c.f1 (A++eC g.f1 g.f2 p s++B))(hp:1≤p)(hC: ∀x ∈ C1,∀b ∈ x.f2,b.f2≠p)(hA: ∀b ∈ A,b.f2≠p):
  Ev (fun k=>DE.f k (C1++l8 g s c A B p::C2) p) (C1++l8 g s c A B 0::C2,true):=by
 obtain⟨i1,_,i3⟩:=aru v hp hA;have e4:oT (C1++l8 g s c A B p::C2) p 0=(C1.length:Int):=by
  rw[apU C1 _ C2 p 0 hC (by show 0≤eO (A++eC g.f1 g.f2 p s++B) p 0;rw[i1];omega)];omega
 have hm:=hs.2 (l8 g s c A B p) (by simp);have hm1:c.f1.length≤1048576:=hm.1;have hm2:(A++eC g.f1 g.f2 p s++B).length≤1048576:=hm.2;have er:av (C1++l8 g s c A B p::C2) (C1.length:Int)=l8 g s c A B p:=R4 rfl;(have hlen:(C1++l8 g s c A B p::C2).length=C1.length+C2.length+1:=by simp;omega);unfold DE.f;refine Ev.bind (akE _ hs) (Ev.bind (Ev.const (show tP.f (C1++l8 g s c A B p::C2) p=some (C1.length:Int) from congrArg some e4)) (Ev.bind (Ev.const (show iE.f (C1++l8 g s c A B p::C2)=some true from congrArg some hb)) (Ev.pos rfl (Ev.neg (by omega) (Ev.pos (by omega) (Ev.pos (by omega) ?_))))));rw[er];refine Ev.bind (aF7 c.f0 c.f1 (A++eC g.f1 g.f2 p s++B) (by omega) (by omega) p) (Ev.pos (by omega) ((Ev.ret _).to ?_));rw[Int.toNat_natCast,aFq,i3];rfl
theorem aEZ: ∀(l0:List Int),aqn l0→ ∃k,jd.f k l0=some true:=by
 rintro l ⟨hl,_⟩;unfold maxLen at hl;refine Ev.get ?_;unfold jd.f;refine Ev.bind (Ev.const rfl) ?_;by_cases c:(l.length:Int)>1048576
 ·exact Ev.pos (decide_eq_true c) (Ev.ret _)
 ·refine Ev.neg (by simpa using c) ?_;obtain⟨cs,p,s,hD,hs⟩:=awU l (by omega);obtain⟨hy,_⟩:=aE6 hs p s;refine Ev.bind hD (Ev.bind (aE1 cs hs p s) (Ev.bind (aE0 cs hs p s) (Ev.neg (by simp) (Ev.neg (by simp) ?_))));refine Ev.bind (aqQ _ hy) (Ev.pos (by trivial) (Ev.bind (Ev.const (show iE.f cs=some (lZ cs) from rfl)) (Ev.bind (TN cs hs) (Ev.succ ?_))));simp only[jd.j0];refine Ev.neg (by simp) ?_;have bad:rY cs p s=(cs,0,0,0,false)→Ev (fun k=>(jj.f k (rY cs p s).1 cs).bind fun t=>some t) true:=fun e=>by
   rw[e];exact Ev.bind (aqQ cs hs) (Ev.ret _)
  (have ajv:rY cs p s=(cs,0,0,0,false)→ ¬(rY cs p s).2.2.2.2=true:=fun e=>by rw[e];simp);cases hg:lq s (k8 cs)with
  |none=>
   (have e:rY cs p s=(cs,0,0,0,false):=by unfold rY;rw[hg]);exact Ev.neg (ajv e) (bad e)
  |some g=>
   by_cases c0:(1≤p∧p≤999)∧(mC cs p).1<0
   ·obtain⟨C1,d,C2,A,R,B,e1,e2,e3,e4,e5,e6,e7,e8,e9,v,vP,v0,vc,eno⟩:=aE5 hs hg c0.1 c0.2;rw[e9]at hy⊢;have bc:=(CG _).mpr v;have bY:=(CG _).mpr vP;have bZ:=(CG _).mpr v0;(have hd:d ∈ cs:=by rw[e1];simp);have hA: ∀b ∈ A,b.f2≠p:=fun b hb=>e8 d hd b (by rw[←e3];simp[hb]);have hC: ∀x ∈ C1,∀b ∈ x.f2,b.f2≠p:=fun x hx=>e8 x (by rw[e1];simp[hx]);have hz:Small (C1++l8 g s d A B 0::C2):=by
     refine⟨by have:=hy.1;simpa using this,fun x hx=>?_⟩;rcases List.mem_append.mp hx with hx|hx
     ·exact hs.2 x (by rw[e1];simp[hx])
     ·rcases List.mem_cons.mp hx with rfl|hx
      ·have:=((nO _ _ _).mp (v0.col _ (by simp:l8 g s d A B 0 ∈ C1++l8 g s d A B 0::C2))).len;exact⟨(hs.2 d hd).1,by omega⟩
      ·exact hs.2 x (by rw[e1];simp[hx])
    have ho:sM (C1++l8 g s d A B 0::C2)=sM cs:=by
     rw[e1,aei,aei,sM,sM,←e3];show _+(oW (A++eC g.f1 g.f2 0 s++B)+_)=_;rw[RR,RR,RR,RR,aEJ e7.2,aqr R e5,e6]
    have hT:=aF9 (g:=g) (s:=s) hy bY vc c0.1.1 hC hA;have h2:mC (C1++l8 g s d A B p::C2) p=(g.f0,g.f1):=by
     obtain⟨i1,i2,_⟩:=aru vc c0.1.1 hA;(have eI:jx (l8 g s d A B p).f2 p=(A.length:Int):=by unfold jx;rw[if_pos (by omega)];exact i1);unfold mC;rw[if_pos bY,UO C1 _ C2 p 0 (fun x hx=>?_) (by rw[eI];omega),eI,e2]
     ·show((0:Int)+(C1.length:Int),(ah (A++eC g.f1 g.f2 p s++B) (A.length:Int)).f0)=_;rw[i2,Int.zero_add]
     ·rcases TQ x.f2 c0.1.1 with⟨a1,_⟩|⟨_,a2⟩
      ·exact a1
      ·have q:=List.find?_some a2;exact absurd (of_decide_eq_true q) (hC x hx _ (List.mem_of_find?_eq_some a2))
    have hq: ∀q,1≤q→q≠p→mC (C1++l8 g s d A B p::C2) q=mC cs q:=by
     intro q q1 q2;unfold mC;rw[if_pos bY,if_pos bc,e1];refine ak4 q1 ?_ C2 C1 0;show(A++eC g.f1 g.f2 p s++B).find? _=_;rw[←e3];refine azi (fun b hb=>?_) (fun b hb=>by rw[e4 b hb];omega);rcases aed hb with e|e<;>omega
    refine Ev.pos rfl (Ev.bind ((ajz cs hs s).to (by rw[hg])) (Ev.bind (ajI cs hs) ?_));have Hz:=TM cs;exact ale cs _ p s g (k8 cs) (by omega) (W5 hg).2.2.2 (aj2 cs _ _ hs hz p s g e7.2 hq eno h2 hT bc bY bZ ho 30 1 (by omega) (by omega)) (k8 cs) 0 rfl (by omega)
   ·(have e:rY cs p s=(cs,0,0,0,false):=by unfold rY;rw[hg];dsimp only;rw[if_neg c0]);exact Ev.neg (ajv e) (bad e)
end Go.Proofs.Ytbpjidekjogfeaa.A
