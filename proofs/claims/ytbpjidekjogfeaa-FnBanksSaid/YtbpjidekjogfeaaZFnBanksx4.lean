/- Used by the law FnBanks. -/
import Derived.Test.YtbpjidekjogfeaaZFnBanksx0
import Derived.Test.YtbpjidekjogfeaaZFnBanksx2
namespace Go.Proofs.YtbpjidekjogfeaaW.cN
open Go.RowKit
namespace Kd
def tag{α:Type}(f:Nat→Nat)(d:Kd α):Kd (α×Nat) where
 sz:=d.sz
 E:=d.E
 K:=fun w x cs=>d.K w x.1 cs
 M:=fun w base ok x cs=>d.M w base (fun k=>ok k∧f k=x.2) x.1 cs
 lW:=fun h=>d.lW h
 k6:=fun h=>d.k6 h
 qA:=fun hb h=>d.qA hb h
 jZ:=fun h=>d.jZ h
 ie:=fun hok h=>d.ie (fun k hk=>⟨hok k hk.1,hk.2⟩) h
 mA:=fun h=>d.ie (fun _ hk=>⟨⟨hk.1.1,hk.2⟩,hk.1.2⟩) (d.mA h)
 mB:=fun hm h=>d.mB (fun k hk=>hm k hk.1) h
 qB:=fun hb h=>d.qB hb h
def bare{α:Type}(d:Kd α):Kd α where
 sz:=d.sz
 E:=d.E
 K:=d.K
 M:=fun w base _ x cs=>d.M w base (fun _=>False) x cs
 lW:=fun h=>d.lW h
 k6:=fun h=>d.k6 h
 qA:=fun hb h=>d.qA hb h
 jZ:=fun h=>d.jZ h
 ie:=fun _ h=>h
 mA:=fun h=>h
 mB:=fun _ h=>d.mB (fun _ hk=>hk.elim) h
 qB:=fun hb h=>d.qB hb h
def raw(sz:Nat):Kd (List Value) where
 sz:=sz
 E:= []
 K:=fun _ x cs=>cs=x∧cs.length=sz∧ ∀u ∈ cs,u.oneCell'=true
 M:=fun _ _ _ x cs=>cs=x∧cs.length=sz∧ ∀u ∈ cs,u.oneCell'=true
 lW:=fun h=>h.2.1
 k6:=fun h=>h.2.2
 qA:=fun _ h=>h
 jZ:=fun h=>h
 ie:=fun _ h=>h
 mA:=fun h=>h
 mB:=fun _ h=>h
 qB:=fun _ h=>h
def S{α:Type}(d:Kd α)(e:Nat)(w:World)(base:Nat)(ok:Nat→Prop)(v:Value)(xs:List α):Prop:= ∃f,(tag f d).R e w base ok v xs.zipIdx
section
variable {α β:Type} {d:Kd α} {d':Kd β} {e e':Nat} {w w1 W:World} {base b:Nat} {ok ok' LD oku:Nat→Prop} {u v:Value} {xs:List α} {ys:List β}
theorem FV{xs:List α}{j:Nat}{p:α}(h:xs[j]? =some p):xs.zipIdx[j]? =some (p,j):=by rw[List.getElem?_zipIdx,h,Nat.zero_add];rfl
theorem CD(h:S d e w base ok v xs):d.R e w base ok v xs:=by
 obtain⟨f,h0,inner,ho,hr⟩:=h;rw[List.length_zipIdx]at ho;exact⟨h0,inner,ho,by have:=hr.1;rw[List.length_zipIdx]at this;exact this,fun j p hj=>d.ie (fun _ hk=>hk.1) (hr.2 j (p,j) (FV hj))⟩
theorem awi{ad:Addr}{n cap:Nat}(h:d.R e w base ok (.slice (some ad) n cap) xs): ∃g,ad=⟨g,0,none⟩:=by
 obtain⟨_,inner,ho,hr⟩:=h;rcases ho.2 with⟨hv,_⟩|⟨g,cap',cur,hv,_⟩
 ·cases hv
 ·(injection hv with ha _ _);(injection ha with ha);exact⟨g,ha⟩
theorem vJ(hE:d.E= [])(h:d.R e w base ok v xs):d.R e w base (fun k=>some k=v.ownBlock) v xs:=by
 obtain⟨h0,inner,ho,hr⟩:=h;refine⟨fun k hk=>hk.symm,inner,ho,hr.oU (fun p c hp=>d.ie (fun k hk=>?_) (d.mA hp))⟩;obtain⟨_,_,_,q,hq,_⟩:=hk;rw[hE]at hq;cases hq
theorem qG(d:Kd α)(e:Nat)(w:World)(base:Nat)(ok:Nat→Prop):S d e w base ok (.slice none 0 0) []:=⟨fun _=>0,mM _ _ _ _ _⟩
theorem fz(h:S d e w base ok v xs)(hok: ∀k,ok k→ok' k):S d e w base ok' v xs:=by
 obtain⟨f,h⟩:=h;exact⟨f,aQ h hok⟩
theorem oD(h:S d e w base ok v xs):S d e w base (fun k=>ok k∧base≤k∧k<w.heap.size∧ ∃q,q ∈ e::d.E∧ ∃cells,w.heap[k]? =some (.cells cells q (0,0))) v xs:=by
 obtain⟨f,h⟩:=h;exact⟨f,vF h⟩
theorem awp(h:S d e w base ok v xs)(hm: ∀k,ok k→w1.heap[k]? =w.heap[k]?):S d e w1 base ok v xs:=by
 obtain⟨f,h⟩:=h;exact⟨f,Kv h hm⟩
theorem Es{base':Nat}(h:S d e w base ok v xs)(hb:base'≤base):S d e w base' ok v xs:=by
 obtain⟨f,h⟩:=h;exact⟨f,cP h hb⟩
theorem Z3(h:S d e w base ok v xs)(hm: ∀k,ok k→k<w.heap.size→w1.heap[k]? =w.heap[k]?):S d e w1 base ok v xs:=
 fz (awp (oD h) (fun k hk=>hm k hk.1 hk.2.2.1)) (fun _ hk=>hk.1)
theorem kL(h:S d e w base ok v xs)(hb:Below w.heap.size w w1):S d e w1 base ok v xs:=Z3 h (fun k _ hk=>hb.block k hk)
theorem eZ(h:S d e w base ok v xs)(o:Obj):S d e (w.alloc o) base ok v xs:=kL h (kN (Below.refl _ _) o)
theorem eW(h:S d e w base ok v xs):S d e w.drew base ok v xs:=kL h (Np (Below.refl _ _))
theorem fc(h:S d e w base ok v xs)(m:Nat):S d e (w.drewN m) base ok v xs:=kL h (jB (Below.refl _ _) m)
theorem ig(h:S d e w base ok v xs){p:Addr}(hok: ∀k,ok k→k≠p.block)(u:Value):S d e (w.setCell p u) base ok v xs:=Z3 h (fun k ho _=>Below.heap_setCell w p u k (hok k ho))
theorem ajd(h:S d e w base ok v xs){g:Nat}(hk:aW w w1 g none)(hok: ∀k,ok k→k≠g):S d e w1 base ok v xs:=Z3 h (fun k ho hlt=>hk.2 k hlt (hok k ho) (by simp))
theorem awt(h:S d e w base ok v xs){g t:Nat}{cells:Array Value}(hb:w.heap[g]? =some (.cells cells t (0,0)))(ht: ∀q,q ∈ e::d.E→q≠t):S d e w base (fun k=>ok k∧k≠g) v xs:=by
 obtain⟨f,h⟩:=h;exact⟨f,bK h hb ht⟩
theorem qH(h:S d e w base ok v xs): ∀k,v.ownBlock=some k→ ∃cells,w.heap[k]? =some (.cells cells e (0,0)):=p9 (CD h)
theorem TD(h:S d e W base ok u xs)(hb:Below W.heap.size W w1):S d e w1 base (fun k=>ok k∧k<W.heap.size) u xs:=
 fz (kL (oD h) hb) (fun _ hk=>⟨hk.1,hk.2.2.1⟩)
theorem awm(h:(bare d).R e w base ok v xs):S d e w base ok v xs:=by
 obtain⟨h0,inner,ho,hr⟩:=h;refine⟨fun _=>0,h0,inner,by rw[List.length_zipIdx];exact ho,by rw[List.length_zipIdx];exact hr.1,fun j p hj=>?_⟩;rw[List.getElem?_zipIdx,Nat.zero_add]at hj;obtain⟨x,hx,rfl⟩:=Option.map_eq_some_iff.1 hj;exact d.ie (fun _ hk=>hk.elim) (hr.2 j x hx)
theorem awj{f f':Nat→Nat}{zs:List (α×Nat)}(h:(tag f d).R e w base ok v zs)(hf: ∀k,ok k→k<w.heap.size→f' k=f k):(tag f' d).R e w base ok v zs:=by
 obtain⟨h0,inner,ho,hr⟩:=vF h;exact⟨fun k hk=>(h0 k hk).1,inner,ho,hr.1,fun j p hj=>d.ie (fun k hk=>⟨⟨hk.1.1.1,hk.1.2⟩,(hf k hk.1.1.1 hk.1.1.2.2.1).trans hk.2⟩) (hr.2 j p hj)⟩
end
section
variable {α β:Type} {d:Kd α} {d':Kd β} {e e' g:Nat} {w w1 W:World} {base b:Nat} {ok ok' LD oku:Nat→Prop} {u v:Value} {xs:List α} {ys:List β}
theorem awq(h:S d e w base ok v xs){t:Nat}{cells:Array Value}(hb:w.heap[g]? =some (.cells cells t (0,0)))(ht:e≠t):some g≠v.ownBlock:=dg (CD h) hb ht
theorem AH(h:S d e w base ok v xs)(hok: ∀k,ok k→k≠g):some g≠v.ownBlock:=Gx (CD h) hok
theorem ajc(h:S d e w base ok v xs)(hp:0<xs.length): ∃g cap,v= .slice (some ⟨g,0,none⟩) xs.length cap∧base≤g∧g<w.heap.size∧ ∃cells,w.heap[g]? =some (.cells cells e (0,0)):=CC (CD h) hp
theorem awn(h:S d e w base ok v xs):v.ownBlock=none∨ ∃k,v.ownBlock=some k∧base≤k:=TC (CD h)
theorem ajg(h:S d e w base ok v xs): ∃A c,v= .slice A xs.length c:=cE (CD h)
theorem Kw{A:Option Addr}{n c:Nat}(h:S d e w base ok (.slice A n c) xs):n=xs.length∧n≤c∧d.C w A xs.length xs:=cM (CD h)
theorem CF(h:S d e w base ok v xs)(a:Nat)(ha:w.heap.size≤a):S d e w base (fun k=>ok k∧k≠a) v xs:=fz (oD h) (fun k hk=>⟨hk.1,by have:=hk.2.2.1;omega⟩)
theorem awr(hu:S d e W base (fun k=>ok k∧k≠g) u xs)(hk:aW W w1 g none):S d e w1 base (fun k=>ok k∧k<W.heap.size) u xs:=
 fz (ajd (oD hu) hk (fun _ h=>h.1.2)) (fun _ h=>⟨h.1.1,h.2.2.1⟩)
theorem AJ{N:Nat}(h:S d e w1 base (fun k=>ok k∧k<N) u xs)(hbase: ∀k,v.ownBlock=some k→N≤k):S d e w1 base (fun k=>(ok k∧some k≠v.ownBlock)∧k<N) u xs:=
 fz h (fun k hk=>⟨⟨hk.1,fun e=>Nat.lt_irrefl _ (Nat.lt_of_lt_of_le hk.2 (hbase k e.symm))⟩,hk.2⟩)
theorem aHb(xs:List α)(p:α):(xs++ [p]).zipIdx=xs.zipIdx++ [(p,xs.length)]:=by rw[List.zipIdx_append];simp
end
section
open Classical in
theorem aws{α:Type}{d:Kd α}{e base:Nat}{LD:Nat→Prop}{w:World}{v:Value}{xs:List α}(h:S d e w base LD v xs)(m:Nat)(dz:Nat→Prop)(hap: ∀k,dz k→ ¬LD k): ∃f,(∀k,dz k→f k=m)∧(tag f d).R e w base LD v xs.zipIdx:=by
 obtain⟨f,h⟩:=h;exact⟨fun k=>if dz k then m else f k,fun k hk=>if_pos hk,awj h (fun k hk _=>if_neg (fun h2=>hap k h2 hk))⟩
variable {P:Program} {ops:Array Oper} {rest:List Oper} {o:Oper} {a:Act} {Q:Exit→Act→World→Prop} {Kc:Act→World→Prop} {α:Type}
theorem Z1(d:Kd α){w0 W:World}(base:Nat)(hgd:o.guard=none)(s x:Operand)(t e:TypeId)(z:Value)(bytes:Nat)
  (ho:o.op= .call {callee:= .builtin .append,args:= #[s,x],argTypes:= #[t,t]})
  (ht:P.underlying t=some (.slice e)) (hinfo:(P.info? e).map (fun i=>(i.zero,i.size,i.bytes))=some (some z,d.sz,bytes)) (hz:z.cells.size=d.sz) (hs0:0<d.sz) (hb0:0<bytes)
  (v:Value) (xs:List α) (p:α) (cs:List Value) (ok dz:Nat→Prop) (hs:a.eval s=v) (hx:a.eval x= .slice (some ⟨W.heap.size,0,none⟩) 1 1) (hp:d.M W base dz p cs) (lJ: ∀k,dz k→ok k∧some k≠v.ownBlock) (lg: ∀k,W.heap.size≤k→ok k)
  (HO:S d e W base (fun k=>ok k∧ ¬dz k) v xs) (HB:Below base w0 W) (hbase:base≤W.heap.size) (hl:(xs.length+1)*bytes≤140737488355328)
  (h: ∀v1 w1,S d e w1 base ok v1 (xs++ [p])→Below base w0 w1→W.grownBy w1 v.ownBlock→(v1.ownBlock=v.ownBlock∨ ∃b,v1.ownBlock=some b∧W.heap.size≤b)→wpList P ops Q rest (a.put o.dst v1) w1):
  wpList P ops Q (o::rest) a (W.alloc (.cells cs.toArray e)):=by
 obtain⟨f,hf,hR⟩:=aws HO xs.length dz (fun _ hk h2=>h2.2 hk);refine rj (tag f d) base hgd s x t e z bytes ho ht hinfo hz hs0 hb0 v xs.zipIdx (p,xs.length) cs ok dz hs hx (d.ie (fun k hk=>⟨hk,hf k hk⟩) hp) lJ lg (aQ hR (fun _ hk=>hk.1)) HB hbase (by rw[List.length_zipIdx];exact hl) ?_;intro v1 w1 hr;rw[←aHb]at hr;exact h v1 w1 ⟨f,hr⟩
theorem aje(d:Kd α){w0 W:World}(base e:Nat)(hgd:o.guard=none){N:Tmp}(_hd:o.dst=some N){xs:List α}{inner:List Value}{ok dz:Nat→Prop}
  (hrun:(execOp a.eval o).run P W= .ok (.value (.slice (some ⟨W.heap.size,0,none⟩) xs.length xs.length)) (W.alloc (.cells inner.toArray e)))
  (BA:cv (d.M W base (fun _=>False)) d.sz xs inner) (_hok: ∀k,dz k→ok k) (lg:ok W.heap.size) (HB:Below base w0 W) (hbase:base≤W.heap.size) (hm:xs.length≤9223372036854775807)
  (h: ∀v1 w1,S d e w1 base ok v1 xs→Below base w0 w1→W.grownBy w1 none→(∃b,v1.ownBlock=some b∧W.heap.size≤b)→wpList P ops Q rest (a.put o.dst v1) w1):wpList P ops Q (o::rest) a W:=
 vG (bare d) base e hgd _hd (ok:=ok) (dz:=ok) hrun BA (fun _ hk=>hk) lg HB hbase hm (fun v1 w1 hr=>h v1 w1 (awm hr))
end
def UQ{α:Type}(f:Nat→Nat)(d:Kd α)(i:Nat)(c:List Value):Kd (α×Nat) where
 sz:=d.sz
 E:=d.E
 K:=fun w x cs=>(x.2=i→cs=c∧cs.length=d.sz∧ ∀u ∈ cs,u.oneCell'=true)∧(x.2≠i→d.K w x.1 cs)
 M:=fun w base ok x cs=>(x.2=i→cs=c∧cs.length=d.sz∧ ∀u ∈ cs,u.oneCell'=true)∧(x.2≠i→d.M w base (fun k=>ok k∧f k=x.2) x.1 cs)
 lW:=fun{w x cs} h=>by
  by_cases hx:x.2=i
  ·exact(h.1 hx).2.1
  ·exact d.lW (h.2 hx)
 k6:=fun{w x cs} h=>by
  by_cases hx:x.2=i
  ·exact(h.1 hx).2.2
  ·exact d.k6 (h.2 hx)
 qA:=fun hb h=>⟨h.1,fun hx=>d.qA hb (h.2 hx)⟩
 jZ:=fun h=>⟨h.1,fun hx=>d.jZ (h.2 hx)⟩
 ie:=fun hok h=>⟨h.1,fun hx=>d.ie (fun k hk=>⟨hok k hk.1,hk.2⟩) (h.2 hx)⟩
 mA:=fun h=>⟨h.1,fun hx=>d.ie (fun _ hk=>⟨⟨hk.1.1,hk.2⟩,hk.1.2⟩) (d.mA (h.2 hx))⟩
 mB:=fun hm h=>⟨h.1,fun hx=>d.mB (fun k hk=>hm k hk.1) (h.2 hx)⟩
 qB:=fun hb h=>⟨h.1,fun hx=>d.qB hb (h.2 hx)⟩
def H{α:Type}(d:Kd α)(e:Nat)(w:World)(base:Nat)(ok:Nat→Prop)(v:Value)(xs:List α)(i:Int)(m4:Nat→Prop)(c:List Value):Prop:=
 (∀k,m4 k→ok k)∧ ∃f,(UQ f d i.toNat c).R e w base (fun k=>ok k∧ ¬m4 k) v xs.zipIdx
section
variable {α β:Type} {d:Kd α} {e e' g n cap:Nat} {w w1 W:World} {base:Nat} {ok ok' m4 dz:Nat→Prop} {u v:Value} {xs:List α} {i:Int} {c:List Value}
theorem awo(h:S d e W base ok (.slice (some ⟨g,0,none⟩) n cap) xs)(z:α)(i:Int)(h0:0≤i)(h1:i<n):
  ∃(m4:Nat→Prop) (c:List Value),c.length=d.sz∧d.M W base m4 (xs.getD i.toNat z) c∧(∀j u,c[j]? =some u→W.cell? ⟨g,i.toNat*d.sz+j,none⟩=some u)∧(∀k,m4 k→ok k∧k≠g)∧H d e W base ok (.slice (some ⟨g,0,none⟩) n cap) xs i m4 c:=by
 obtain⟨f,hR⟩:=h;have hn:=(cM hR).1;rw[List.length_zipIdx]at hn;(have xw:some g=(Value.slice (some ⟨g,0,none⟩) n cap).ownBlock:=by simp[Value.ownBlock]);obtain⟨adt,inner,ho,hr⟩:=hR;(have qN:i.toNat<xs.length:=by omega);(have hlen:inner.length=xs.length*d.sz:=by have:=hr.1;rw[List.length_zipIdx]at this;exact this);(have Wa:i.toNat*d.sz+d.sz≤inner.length:=by rw[hlen,←Nat.succ_mul];exact Nat.mul_le_mul_right _ qN);have hM:=hr.2 i.toNat _ (FV (List.getElem?_eq_getElem qN));have hkg: ∀k,some k≠(Value.slice (some ⟨g,0,none⟩) n cap).ownBlock→k≠g:=fun k hk he=>hk (by rw[he];exact xw);refine⟨fun k=>(ok k∧k≠g)∧f k=i.toNat,(inner.drop (i.toNat*d.sz)).take d.sz,by rw[List.length_take,List.length_drop];omega,?_,fun j u hu=>?_,fun k hk=>hk.1,fun k hk=>hk.1.1,f,fun k hk=>⟨adt k hk,fun h2=>h2.1.2 ?_⟩,inner,ho,hr.1,fun m p hm=>?_⟩
 ·rw[List.getD_eq_getElem?_getD,List.getElem?_eq_getElem qN];exact d.ie (fun k hk=>⟨⟨hk.1.1,hkg k hk.1.2⟩,hk.2⟩) hM
 ·rw[List.getElem?_take]at hu;split at hu
  ·rw[List.getElem?_drop]at hu;have:=ho.cells (g:=g) xw.symm _ u hu
   rwa [add_plain]at this
  ·cases hu
 ·rw[←xw]at hk;injection hk with hk;exact hk.symm
 ·have hold:=hr.2 m p hm;have hp2:p.2=m:=by
   rw[List.getElem?_zipIdx,Nat.zero_add]at hm;obtain⟨q,_,rfl⟩:=Option.map_eq_some_iff.1 hm;rfl
  refine⟨fun hx=>?_,fun hx=>d.ie (fun k hk=>⟨⟨⟨hk.1.1,fun h2=>hx ?_⟩,hk.1.2⟩,hk.2⟩) hold⟩
  ·(have Fm:m=i.toNat:=by omega);subst Fm;exact⟨rfl,d.lW (d.jZ hM),d.k6 (d.jZ hM)⟩
  ·rw[←hk.2];exact h2.2
open Classical in
theorem auP(h:H d e w base ok v xs i m4 c){x':α}(hM:d.M w base dz x' c)(hok: ∀k,dz k→m4 k):S d e w base ok v (xs.set i.toNat x'):=by
 obtain⟨ho,f,h0,inner,hown,hr⟩:=h;refine⟨fun k=>if m4 k then i.toNat else f k,fun k hk=>(h0 k hk).1,inner,by rw[List.length_zipIdx,List.length_set];rw[List.length_zipIdx]at hown;exact hown,by have:=hr.1;rw[List.length_zipIdx]at this;rw[List.length_zipIdx,List.length_set];exact this,fun m p hm=>?_⟩;rw[List.getElem?_zipIdx,Nat.zero_add]at hm;obtain⟨q,hq,rfl⟩:=Option.map_eq_some_iff.1 hm;have hml:m<xs.length:=by
  have:=(List.getElem?_eq_some_iff.1 hq).1
  rwa [List.length_set]at this
 by_cases Fm:m=i.toNat
 ·subst Fm;rw[List.getElem?_set_self hml]at hq;(injection hq with hq);subst hq;have hc:=((hr.2 i.toNat _ (FV (List.getElem?_eq_getElem hml))).1 rfl).1;show d.M w base _ x' ((inner.drop (i.toNat*d.sz)).take d.sz);rw[show(inner.drop (i.toNat*d.sz)).take d.sz=c from hc];exact d.ie (fun k hk=>⟨⟨ho k (hok k hk),fun he=>(h0 k he.symm).2 (hok k hk)⟩,if_pos (hok k hk)⟩) hM
 ·rw[List.getElem?_set_ne (Ne.symm Fm)]at hq;exact d.ie (fun k hk=>⟨⟨hk.1.1.1,hk.1.2⟩,(if_neg hk.1.1.2).trans hk.2⟩) ((hr.2 m (q,m) (FV hq)).2 Fm)
theorem auQ{Fu:Nat→Prop}(h:H d e w base (fun k=>ok k∧ ¬Fu k) v xs i m4 c)(hg: ∀k,Fu k→ok k):H d e w base ok v xs i (fun k=>m4 k∨Fu k) c:=by
 obtain⟨ho,f,h⟩:=h;exact⟨fun k hk=>hk.elim (fun h2=>(ho k h2).1) (hg k),f,aQ h (fun k hk=>⟨hk.1.1,fun h2=>h2.elim hk.2 hk.1.2⟩)⟩
theorem Z2(h:S d e W base ok (.slice (some ⟨g,0,none⟩) n cap) xs)(z:α)(i:Int)(h0:0≤i)(h1:i<n):
  ∃(m4:Nat→Prop) (c:List Value),c.length=d.sz∧d.M W base m4 (xs.getD i.toNat z) c∧(∀j u,c[j]? =some u→W.cell? ⟨g,i.toNat*d.sz+j,none⟩=some u)∧(∀j,W.frozen? ⟨g,i.toNat*d.sz+j,none⟩=false)∧(∀k,m4 k→ok k∧k≠g)∧H d e W base ok (.slice (some ⟨g,0,none⟩) n cap) xs i m4 c:=by
 obtain⟨_,_,_,_,hfr⟩:=oa (CD h) z i h0 h1;obtain⟨m4,c,uN,hM,tK,aDv,hH⟩:=awo h z i h0 h1;exact⟨m4,c,uN,hM,tK,hfr,aDv,hH⟩
theorem auR(h:H d e W base ok (.slice (some ⟨g,0,none⟩) n cap) xs i m4 c)(h0:0≤i)(h1:i<n):
  ∃rows:List (List Value),rows.length=xs.length∧(raw d.sz).R e W base (fun _=>True) (.slice (some ⟨g,0,none⟩) n cap) rows∧c.length=d.sz∧(∀u ∈ c,u.oneCell'=true)∧(∀j u,c[j]? =some u→W.cell? ⟨g,i.toNat*d.sz+j,none⟩=some u)∧
   ∀w1 c',W.grownBy w1 (some g)→(raw d.sz).R e w1 base (fun _=>True) (.slice (some ⟨g,0,none⟩) n cap) (rows.set i.toNat c')→H d e w1 base ok (.slice (some ⟨g,0,none⟩) n cap) xs i m4 c':=by
 obtain⟨hoo,f,hR⟩:=h;have hn:=(cM hR).1;rw[List.length_zipIdx]at hn;(have xw:some g=(Value.slice (some ⟨g,0,none⟩) n cap).ownBlock:=by simp[Value.ownBlock]);obtain⟨adt,inner,ho,hr⟩:=hR;(have qN:i.toNat<xs.length:=by omega);(have hlen:inner.length=xs.length*d.sz:=by have:=hr.1;rw[List.length_zipIdx]at this;exact this);have hkg: ∀k,some k≠(Value.slice (some ⟨g,0,none⟩) n cap).ownBlock→k≠g:=fun k hk he=>hk (by rw[he];exact xw);have U9:=(hr.2 i.toNat _ (FV (List.getElem?_eq_getElem qN))).1 rfl;rw[U9.1]at U9;have hc:=((hr.2 i.toNat _ (FV (List.getElem?_eq_getElem qN))).1 rfl).1;refine⟨(List.range xs.length).map fun j=>(inner.drop (j*d.sz)).take d.sz,by rw[List.length_map,List.length_range],⟨fun _ _=>trivial,inner,?_,?_,fun j p hj=>?_⟩,U9.2.1,U9.2.2,fun j u hu=>?_,fun w1 c' hg adv=>?_⟩
 ·rw[List.length_map,List.length_range];rw[List.length_zipIdx]at ho;exact ho
 ·rw[List.length_map,List.length_range];exact hlen
 ·rw[List.getElem?_map]at hj;obtain⟨j',hj',rfl⟩:=Option.map_eq_some_iff.1 hj;obtain⟨hl,he⟩:=List.getElem?_eq_some_iff.1 hj';rw[List.getElem_range]at he;subst he;rw[List.length_range]at hl;have hm:=(UQ f d i.toNat c).jZ (hr.2 j _ (FV (List.getElem?_eq_getElem hl)));exact⟨rfl,(UQ f d i.toNat c).lW hm,(UQ f d i.toNat c).k6 hm⟩
 ·rw[←hc,List.getElem?_take]at hu;split at hu
  ·rw[List.getElem?_drop]at hu;have:=ho.cells (g:=g) xw.symm _ u hu
   rwa [add_plain]at this
  ·cases hu
 ·obtain⟨_,inner',ho',hr'⟩:=adv;(have hl':inner'.length=xs.length*d.sz:=by have:=hr'.1;rw[List.length_set,List.length_map,List.length_range]at this;exact this);rw[List.length_set,List.length_map,List.length_range]at ho';refine⟨hoo,f,adt,inner',by rw[List.length_zipIdx];exact ho',by rw[List.length_zipIdx];exact hl',fun m p hm=>?_⟩;rw[List.getElem?_zipIdx,Nat.zero_add]at hm;obtain⟨q,hq,rfl⟩:=Option.map_eq_some_iff.1 hm;have hml:m<xs.length:=(List.getElem?_eq_some_iff.1 hq).1;have hold:=hr.2 m (q,m) (FV hq);refine⟨fun hx=>?_,fun hx=>?_⟩
  ·have hx':m=i.toNat:=hx;subst hx';exact hr'.2 i.toNat c' (List.getElem?_set_self (by rw[List.length_map,List.length_range];exact hml))
  ·have hx':m≠i.toNat:=hx;have hcm:=(hr'.2 m ((inner.drop (m*d.sz)).take d.sz) (by
    rw[List.getElem?_set_ne (Ne.symm hx'),List.getElem?_map,List.getElem?_eq_getElem (by rw[List.length_range];exact hml),List.getElem_range];rfl)).1
   show d.M w1 base _ q ((inner'.drop (m*d.sz)).take d.sz);rw[show(inner'.drop (m*d.sz)).take d.sz=_ from hcm];exact d.ie (fun k hk=>hk.1) (d.mB (w1:=w1) (fun k hk=>hg.block k hk.2.2.1 (fun he=>hkg k hk.1.1.2 (by injection he))) (d.mA (hold.2 hx)))
theorem auS(h:H d e W base ok (.slice (some ⟨g,0,none⟩) n cap) xs i m4 c)(h0:0≤i)(h1:i<n){seg:List Value}{j:Nat}(hj:j+seg.length≤d.sz)(hone: ∀q ∈ seg,q.oneCell'=true):
  H d e (W.setCells g (i.toNat*d.sz+j) seg) base ok (.slice (some ⟨g,0,none⟩) n cap) xs i m4 (c.take j++seg++c.drop (j+seg.length))∧W.grownBy (W.setCells g (i.toNat*d.sz+j) seg) (some g):=by
 obtain⟨rows,_,adv,uN,hco,tK,azJ⟩:=auR h h0 h1;obtain⟨h2,h3⟩:=vI adv i h0 h1 (c:=c) (seg:=seg) (j:=j) (x':=c.take j++seg++c.drop (j+seg.length)) (dz:=fun _=>False) uN tK hj
  ⟨rfl,by
   show(c.take j++seg++c.drop (j+seg.length)).length=d.sz;simp only[List.length_append,List.length_take,List.length_drop];omega,fun u hu=>by
   rcases List.mem_append.1 hu with hu|hu
   ·rcases List.mem_append.1 hu with hu|hu
    ·exact hco u (List.mem_of_mem_take hu)
    ·exact hone u hu
   ·exact hco u (List.mem_of_mem_drop hu)⟩ (fun _ hk=>hk.elim)
 exact⟨azJ _ _ h3 h2,h3⟩
theorem ajf{Fu:Nat→Prop}(hH:H d e W base (fun k=>ok k∧ ¬Fu k) (.slice (some ⟨g,0,none⟩) n cap) xs i m4 c)(h0:0≤i)(h1:i<n){seg:List Value}{j:Nat}(hj:j+seg.length≤d.sz)
  {x':α} (hM:d.M W base dz x' (c.take j++seg++c.drop (j+seg.length))) (lJ: ∀k,dz k→m4 k∨Fu k) (hg: ∀k,Fu k→ok k∧k≠g):
  S d e (W.setCells g (i.toNat*d.sz+j) seg) base ok (.slice (some ⟨g,0,none⟩) n cap) (xs.set i.toNat x')∧W.grownBy (W.setCells g (i.toNat*d.sz+j) seg) (some g):=by
 have hne: ∀k,m4 k∨Fu k→k≠g:=by
  intro k hk he;subst he;rcases hk with hk|hk
  ·obtain⟨_,f,hR⟩:=hH;exact(hR.1 k (by simp[Value.ownBlock])).2 hk
  ·exact(hg k hk).2 rfl
 obtain⟨h2,h3⟩:=auS (auQ hH (fun k hk=>(hg k hk).1)) h0 h1 hj (fun q hq=>d.k6 (d.jZ hM) q (List.mem_append_left _ (List.mem_append_right _ hq)));exact⟨auP h2 (ZE hM (fun k hk hlt=>h3.block k hlt (fun he=>hne k (lJ k hk) (by injection he)))) lJ,h3⟩
end
end Kd
end Go.Proofs.YtbpjidekjogfeaaW.cN
