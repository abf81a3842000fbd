/- Used by the law FnExactBankPut. -/
import Derived.Test.YtbpjidekjogfeaaZFnExactBankPutx0
import Derived.Test.YtbpjidekjogfeaaZFnExactBankPutx2
namespace Go.Proofs.YtbpjidekjogfeaaW.cv
open Go.RowKit
namespace Kd
def tag{α:Type}(f:Nat→Nat)(d:Kd α):Kd (α×Nat) where
 sz:=d.sz
 E:=d.E
 K:=fun w x cs=>d.K w x.1 cs
 M:=fun w base ok x cs=>d.M w base (fun k=>ok k∧f k=x.2) x.1 cs
 jt:=fun h=>d.jt h
 iT:=fun h=>d.iT h
 mq:=fun hb h=>d.mq hb h
 gL:=fun h=>d.gL h
 fe:=fun hok h=>d.fe (fun k hk=>⟨hok k hk.1,hk.2⟩) h
 ju:=fun h=>d.fe (fun _ hk=>⟨⟨hk.1.1,hk.2⟩,hk.1.2⟩) (d.ju h)
 jv:=fun hm h=>d.jv (fun k hk=>hm k hk.1) h
 mw:=fun hb h=>d.mw hb h
def bare{α:Type}(d:Kd α):Kd α where
 sz:=d.sz
 E:=d.E
 K:=d.K
 M:=fun w base _ x cs=>d.M w base (fun _=>False) x cs
 jt:=fun h=>d.jt h
 iT:=fun h=>d.iT h
 mq:=fun hb h=>d.mq hb h
 gL:=fun h=>d.gL h
 fe:=fun _ h=>h
 ju:=fun h=>h
 jv:=fun _ h=>d.jv (fun _ hk=>hk.elim) h
 mw:=fun hb h=>d.mw hb h
def raw(sz:Nat):Kd (List Value) where
 sz:=sz
 E:= []
 K:=fun _ x cs=>cs=x∧cs.length=sz∧ ∀u ∈ cs,u.oneCell'=true
 M:=fun _ _ _ x cs=>cs=x∧cs.length=sz∧ ∀u ∈ cs,u.oneCell'=true
 jt:=fun h=>h.2.1
 iT:=fun h=>h.2.2
 mq:=fun _ h=>h
 gL:=fun h=>h
 fe:=fun _ h=>h
 ju:=fun h=>h
 jv:=fun _ h=>h
 mw:=fun _ h=>h
def S{α:Type}(d:Kd α)(e:Nat)(w:World)(base:Nat)(ok:Nat→Prop)(v:Value)(xs:List α):Prop:= ∃f,(tag f d).R e w base ok v xs.zipIdx
section
variable {α β:Type} {d:Kd α} {d':Kd β} {e e':Nat} {w w1 W:World} {base b:Nat} {ok ok' DQ oku:Nat→Prop} {u v:Value} {xs:List α} {ys:List β}
theorem y9{xs:List α}{j:Nat}{p:α}(h:xs[j]? =some p):xs.zipIdx[j]? =some (p,j):=by rw[List.getElem?_zipIdx,h,Nat.zero_add];rfl
theorem uO(h:S d e w base ok v xs):d.R e w base ok v xs:=by
 obtain⟨f,h0,inner,ho,hr⟩:=h;rw[List.length_zipIdx]at ho;exact⟨h0,inner,ho,by have:=hr.1;rw[List.length_zipIdx]at this;exact this,fun j p hj=>d.fe (fun _ hk=>hk.1) (hr.2 j (p,j) (y9 hj))⟩
theorem ais{ad:Addr}{n cap:Nat}(h:d.R e w base ok (.slice (some ad) n cap) xs): ∃g,ad=⟨g,0,none⟩:=by
 obtain⟨_,inner,ho,hr⟩:=h;rcases ho.2 with⟨hv,_⟩|⟨g,cap',cur,hv,_⟩
 ·cases hv
 ·(injection hv with ha _ _);(injection ha with ha);exact⟨g,ha⟩
theorem o4(hE:d.E= [])(h:d.R e w base ok v xs):d.R e w base (fun k=>some k=v.ownBlock) v xs:=by
 obtain⟨h0,inner,ho,hr⟩:=h;refine⟨fun k hk=>hk.symm,inner,ho,hr.kP (fun p c hp=>d.fe (fun k hk=>?_) (d.ju hp))⟩;obtain⟨_,_,_,q,hq,_⟩:=hk;rw[hE]at hq;cases hq
theorem E3(d:Kd α)(e:Nat)(w:World)(base:Nat)(ok:Nat→Prop):S d e w base ok (.slice none 0 0) []:=⟨fun _=>0,oZ _ _ _ _ _⟩
theorem dO(h:S d e w base ok v xs)(hok: ∀k,ok k→ok' k):S d e w base ok' v xs:=by
 obtain⟨f,h⟩:=h;exact⟨f,bE h hok⟩
theorem nN(h:S d e w base ok v xs):S d e w base (fun k=>ok k∧base≤k∧k<w.heap.size∧ ∃q,q ∈ e::d.E∧ ∃cells,w.heap[k]? =some (.cells cells q (0,0))) v xs:=by
 obtain⟨f,h⟩:=h;exact⟨f,pW h⟩
theorem aiC(h:S d e w base ok v xs)(hm: ∀k,ok k→w1.heap[k]? =w.heap[k]?):S d e w1 base ok v xs:=by
 obtain⟨f,h⟩:=h;exact⟨f,CP h hm⟩
theorem vT{base':Nat}(h:S d e w base ok v xs)(hb:base'≤base):S d e w base' ok v xs:=by
 obtain⟨f,h⟩:=h;exact⟨f,dZ h hb⟩
theorem PJ(h:S d e w base ok v xs)(hm: ∀k,ok k→k<w.heap.size→w1.heap[k]? =w.heap[k]?):S d e w1 base ok v xs:=
 dO (aiC (nN h) (fun k hk=>hm k hk.1 hk.2.2.1)) (fun _ hk=>hk.1)
theorem eN(h:S d e w base ok v xs)(hb:Below w.heap.size w w1):S d e w1 base ok v xs:=PJ h (fun k _ hk=>hb.block k hk)
theorem eG(h:S d e w base ok v xs)(o:Obj):S d e (w.alloc o) base ok v xs:=eN h (jB (Below.refl _ _) o)
theorem ek(h:S d e w base ok v xs):S d e w.drew base ok v xs:=eN h (Fg (Below.refl _ _))
theorem eH(h:S d e w base ok v xs)(m:Nat):S d e (w.drewN m) base ok v xs:=eN h (iy (Below.refl _ _) m)
theorem fL(h:S d e w base ok v xs){p:Addr}(hok: ∀k,ok k→k≠p.block)(u:Value):S d e (w.setCell p u) base ok v xs:=PJ h (fun k ho _=>Below.heap_setCell w p u k (hok k ho))
theorem o5(h:S d e w base ok v xs): ∀k,v.ownBlock=some k→ ∃cells,w.heap[k]? =some (.cells cells e (0,0)):=pX (uO h)
theorem KH(h:S d e W base ok u xs)(hb:Below W.heap.size W w1):S d e w1 base (fun k=>ok k∧k<W.heap.size) u xs:=
 dO (eN (nN h) hb) (fun _ hk=>⟨hk.1,hk.2.2.1⟩)
theorem Yf(h:(bare d).R e w base ok v xs):S d e w base ok v xs:=by
 obtain⟨h0,inner,ho,hr⟩:=h;refine⟨fun _=>0,h0,inner,by rw[List.length_zipIdx];exact ho,by rw[List.length_zipIdx];exact hr.1,fun j p hj=>?_⟩;rw[List.getElem?_zipIdx,Nat.zero_add]at hj;obtain⟨x,hx,rfl⟩:=Option.map_eq_some_iff.1 hj;exact d.fe (fun _ hk=>hk.elim) (hr.2 j x hx)
theorem aiv{f f':Nat→Nat}{zs:List (α×Nat)}(h:(tag f d).R e w base ok v zs)(hf: ∀k,ok k→k<w.heap.size→f' k=f k):(tag f' d).R e w base ok v zs:=by
 obtain⟨h0,inner,ho,hr⟩:=pW h;exact⟨fun k hk=>(h0 k hk).1,inner,ho,hr.1,fun j p hj=>d.fe (fun k hk=>⟨⟨hk.1.1.1,hk.1.2⟩,(hf k hk.1.1.1 hk.1.1.2.2.1).trans hk.2⟩) (hr.2 j p hj)⟩
end
section
variable {α β:Type} {d:Kd α} {d':Kd β} {e e' g:Nat} {w w1 W:World} {base b:Nat} {ok ok' DQ oku:Nat→Prop} {u v:Value} {xs:List α} {ys:List β}
theorem xX(h:S d e w base ok v xs)(hok: ∀k,ok k→k≠g):some g≠v.ownBlock:=zK (uO h) hok
theorem Yg(h:S d e w base ok v xs)(hp:0<xs.length): ∃g cap,v= .slice (some ⟨g,0,none⟩) xs.length cap∧base≤g∧g<w.heap.size∧ ∃cells,w.heap[g]? =some (.cells cells e (0,0)):=qB (uO h) hp
theorem xY(h:S d e w base ok v xs): ∃A c,v= .slice A xs.length c:=dg (uO h)
theorem jh{A:Option Addr}{n c:Nat}(h:S d e w base ok (.slice A n c) xs):n=xs.length∧n≤c∧d.C w A xs.length xs:=dH (uO h)
theorem zL(h:S d e w base ok v xs)(a:Nat)(ha:w.heap.size≤a):S d e w base (fun k=>ok k∧k≠a) v xs:=dO (nN h) (fun k hk=>⟨hk.1,by have:=hk.2.2.1;omega⟩)
theorem xZ{N:Nat}(h:S d e w1 base (fun k=>ok k∧k<N) u xs)(hbase: ∀k,v.ownBlock=some k→N≤k):S d e w1 base (fun k=>(ok k∧some k≠v.ownBlock)∧k<N) u xs:=
 dO h (fun k hk=>⟨⟨hk.1,fun e=>Nat.lt_irrefl _ (Nat.lt_of_lt_of_le hk.2 (hbase k e.symm))⟩,hk.2⟩)
theorem asR(xs:List α)(p:α):(xs++ [p]).zipIdx=xs.zipIdx++ [(p,xs.length)]:=by rw[List.zipIdx_append];simp
end
section
open Classical in
theorem aiD{α:Type}{d:Kd α}{e base:Nat}{DQ:Nat→Prop}{w:World}{v:Value}{xs:List α}(h:S d e w base DQ v xs)(m:Nat)(cr:Nat→Prop)(hap: ∀k,cr k→ ¬DQ k): ∃f,(∀k,cr k→f k=m)∧(tag f d).R e w base DQ v xs.zipIdx:=by
 obtain⟨f,h⟩:=h;exact⟨fun k=>if cr k then m else f k,fun k hk=>if_pos hk,aiv h (fun k hk _=>if_neg (fun h2=>hap k h2 hk))⟩
variable {P:Program} {ops:Array Oper} {rest:List Oper} {o:Oper} {a:Act} {Q:Exit→Act→World→Prop} {Kc:Act→World→Prop} {α:Type}
theorem Ye(d:Kd α){w0 W:World}(base:Nat)(hgd:o.guard=none)(s x:Operand)(t e:TypeId)(z:Value)(bytes:Nat)
  (ho:o.op= .call {callee:= .builtin .append,args:= #[s,x],argTypes:= #[t,t]})
  (ht:P.underlying t=some (.slice e)) (hinfo:(P.info? e).map (fun i=>(i.zero,i.size,i.bytes))=some (some z,d.sz,bytes)) (hz:z.cells.size=d.sz) (hs0:0<d.sz) (hb0:0<bytes)
  (v:Value) (xs:List α) (p:α) (cs:List Value) (ok cr:Nat→Prop) (hs:a.eval s=v) (hx:a.eval x= .slice (some ⟨W.heap.size,0,none⟩) 1 1) (hp:d.M W base cr p cs) (jQ: ∀k,cr k→ok k∧some k≠v.ownBlock) (iP: ∀k,W.heap.size≤k→ok k)
  (HO:S d e W base (fun k=>ok k∧ ¬cr k) v xs) (HB:Below base w0 W) (hbase:base≤W.heap.size) (hl:(xs.length+1)*bytes≤140737488355328)
  (h: ∀v1 w1,S d e w1 base ok v1 (xs++ [p])→Below base w0 w1→W.grownBy w1 v.ownBlock→(v1.ownBlock=v.ownBlock∨ ∃b,v1.ownBlock=some b∧W.heap.size≤b)→wpList P ops Q rest (a.put o.dst v1) w1):
  wpList P ops Q (o::rest) a (W.alloc (.cells cs.toArray e)):=by
 obtain⟨f,hf,hR⟩:=aiD HO xs.length cr (fun _ hk h2=>h2.2 hk);refine pV (tag f d) base hgd s x t e z bytes ho ht hinfo hz hs0 hb0 v xs.zipIdx (p,xs.length) cs ok cr hs hx (d.fe (fun k hk=>⟨hk,hf k hk⟩) hp) jQ iP (bE hR (fun _ hk=>hk.1)) HB hbase (by rw[List.length_zipIdx];exact hl) ?_;intro v1 w1 hr;rw[←asR]at hr;exact h v1 w1 ⟨f,hr⟩
theorem aiA(d:Kd α){w0 W:World}(base e:Nat)(hgd:o.guard=none){N:Tmp}(_hd:o.dst=some N){xs:List α}{inner:List Value}{ok cr:Nat→Prop}
  (hrun:(execOp a.eval o).run P W= .ok (.value (.slice (some ⟨W.heap.size,0,none⟩) xs.length xs.length)) (W.alloc (.cells inner.toArray e)))
  (uZ:bY (d.M W base (fun _=>False)) d.sz xs inner) (_hok: ∀k,cr k→ok k) (iP:ok W.heap.size) (HB:Below base w0 W) (hbase:base≤W.heap.size) (hm:xs.length≤9223372036854775807)
  (h: ∀v1 w1,S d e w1 base ok v1 xs→Below base w0 w1→W.grownBy w1 none→(∃b,v1.ownBlock=some b∧W.heap.size≤b)→wpList P ops Q rest (a.put o.dst v1) w1):wpList P ops Q (o::rest) a W:=
 uN (bare d) base e hgd _hd (ok:=ok) (cr:=ok) hrun uZ (fun _ hk=>hk) iP HB hbase hm (fun v1 w1 hr=>h v1 w1 (Yf hr))
theorem aiB(d:Kd α){w0 W:World}(base e:Nat)(hgd:o.guard=none){N:Tmp}(hd:o.dst=some N)(t:TypeId)(x y:Operand)(ho:o.op= .makeSlice t x y)(n:Int)(hx:a.eval x= .int .i64 n)(hy:a.eval y= .int .i64 n)
  (ht:P.underlying t=some (.slice e)) (z:Value) (bytes:Nat) (hinfo:(P.info? e).map (fun i=>(i.zero,i.size,i.bytes))=some (some z,d.sz,bytes)) (hz:z.cells.size=d.sz) (hs0:0<d.sz) (hb0:0<bytes)
  (z0:α) {ok cr:Nat→Prop} (hzero:d.M W base (fun _=>False) z0 z.cells.toList) (_hok: ∀k,cr k→ok k) (iP:ok W.heap.size) (h0:0≤n) (hl:n.toNat*bytes≤281474976710656) (HB:Below base w0 W) (hbase:base≤W.heap.size)
  (h: ∀v1 w1,S d e w1 base ok v1 (List.replicate n.toNat z0)→Below base w0 w1→W.grownBy w1 none→(∃b,v1.ownBlock=some b∧W.heap.size≤b)→wpList P ops Q rest (a.put o.dst v1) w1):wpList P ops Q (o::rest) a W:=
 PF (bare d) base e hgd hd t x y ho n hx hy ht z bytes hinfo hz hs0 hb0 z0 (ok:=ok) (cr:=ok) hzero (fun _ hk=>hk) iP h0 hl HB hbase (fun v1 w1 hr=>h v1 w1 (Yf hr))
end
def Ll{α:Type}(f:Nat→Nat)(d:Kd α)(i:Nat)(c:List Value):Kd (α×Nat) where
 sz:=d.sz
 E:=d.E
 K:=fun w x cs=>(x.2=i→cs=c∧cs.length=d.sz∧ ∀u ∈ cs,u.oneCell'=true)∧(x.2≠i→d.K w x.1 cs)
 M:=fun w base ok x cs=>(x.2=i→cs=c∧cs.length=d.sz∧ ∀u ∈ cs,u.oneCell'=true)∧(x.2≠i→d.M w base (fun k=>ok k∧f k=x.2) x.1 cs)
 jt:=fun{w x cs} h=>by
  by_cases hx:x.2=i
  ·exact(h.1 hx).2.1
  ·exact d.jt (h.2 hx)
 iT:=fun{w x cs} h=>by
  by_cases hx:x.2=i
  ·exact(h.1 hx).2.2
  ·exact d.iT (h.2 hx)
 mq:=fun hb h=>⟨h.1,fun hx=>d.mq hb (h.2 hx)⟩
 gL:=fun h=>⟨h.1,fun hx=>d.gL (h.2 hx)⟩
 fe:=fun hok h=>⟨h.1,fun hx=>d.fe (fun k hk=>⟨hok k hk.1,hk.2⟩) (h.2 hx)⟩
 ju:=fun h=>⟨h.1,fun hx=>d.fe (fun _ hk=>⟨⟨hk.1.1,hk.2⟩,hk.1.2⟩) (d.ju (h.2 hx))⟩
 jv:=fun hm h=>⟨h.1,fun hx=>d.jv (fun k hk=>hm k hk.1) (h.2 hx)⟩
 mw:=fun hb h=>⟨h.1,fun hx=>d.mw hb (h.2 hx)⟩
def H{α:Type}(d:Kd α)(e:Nat)(w:World)(base:Nat)(ok:Nat→Prop)(v:Value)(xs:List α)(i:Int)(fD:Nat→Prop)(c:List Value):Prop:=
 (∀k,fD k→ok k)∧ ∃f,(Ll f d i.toNat c).R e w base (fun k=>ok k∧ ¬fD k) v xs.zipIdx
section
variable {α β:Type} {d:Kd α} {e e' g n cap:Nat} {w w1 W:World} {base:Nat} {ok ok' fD cr:Nat→Prop} {u v:Value} {xs:List α} {i:Int} {c:List Value}
theorem aiz(h:S d e W base ok (.slice (some ⟨g,0,none⟩) n cap) xs)(z:α)(i:Int)(h0:0≤i)(h1:i<n):
  ∃(fD:Nat→Prop) (c:List Value),c.length=d.sz∧d.M W base fD (xs.getD i.toNat z) c∧(∀j u,c[j]? =some u→W.cell? ⟨g,i.toNat*d.sz+j,none⟩=some u)∧(∀k,fD k→ok k∧k≠g)∧H d e W base ok (.slice (some ⟨g,0,none⟩) n cap) xs i fD c:=by
 obtain⟨f,hR⟩:=h;have hn:=(dH hR).1;rw[List.length_zipIdx]at hn;(have qM:some g=(Value.slice (some ⟨g,0,none⟩) n cap).ownBlock:=by simp[Value.ownBlock]);obtain⟨Tl,inner,ho,hr⟩:=hR;(have kn:i.toNat<xs.length:=by omega);(have hlen:inner.length=xs.length*d.sz:=by have:=hr.1;rw[List.length_zipIdx]at this;exact this);(have DD:i.toNat*d.sz+d.sz≤inner.length:=by rw[hlen,←Nat.succ_mul];exact Nat.mul_le_mul_right _ kn);have hM:=hr.2 i.toNat _ (y9 (List.getElem?_eq_getElem kn));have Tb: ∀k,some k≠(Value.slice (some ⟨g,0,none⟩) n cap).ownBlock→k≠g:=fun k hk he=>hk (by rw[he];exact qM);refine⟨fun k=>(ok k∧k≠g)∧f k=i.toNat,(inner.drop (i.toNat*d.sz)).take d.sz,by rw[List.length_take,List.length_drop];omega,?_,fun j u hu=>?_,fun k hk=>hk.1,fun k hk=>hk.1.1,f,fun k hk=>⟨Tl k hk,fun h2=>h2.1.2 ?_⟩,inner,ho,hr.1,fun m p hm=>?_⟩
 ·rw[List.getD_eq_getElem?_getD,List.getElem?_eq_getElem kn];exact d.fe (fun k hk=>⟨⟨hk.1.1,Tb k hk.1.2⟩,hk.2⟩) hM
 ·rw[List.getElem?_take]at hu;split at hu
  ·rw[List.getElem?_drop]at hu;have:=ho.cells (g:=g) qM.symm _ u hu
   rwa [add_plain]at this
  ·cases hu
 ·rw[←qM]at hk;injection hk with hk;exact hk.symm
 ·have hold:=hr.2 m p hm;have hp2:p.2=m:=by
   rw[List.getElem?_zipIdx,Nat.zero_add]at hm;obtain⟨q,_,rfl⟩:=Option.map_eq_some_iff.1 hm;rfl
  refine⟨fun hx=>?_,fun hx=>d.fe (fun k hk=>⟨⟨⟨hk.1.1,fun h2=>hx ?_⟩,hk.1.2⟩,hk.2⟩) hold⟩
  ·(have yG:m=i.toNat:=by omega);subst yG;exact⟨rfl,d.jt (d.gL hM),d.iT (d.gL hM)⟩
  ·rw[←hk.2];exact h2.2
open Classical in
theorem XA(h:H d e w base ok v xs i fD c){x':α}(hM:d.M w base cr x' c)(hok: ∀k,cr k→fD k):S d e w base ok v (xs.set i.toNat x'):=by
 obtain⟨ho,f,h0,inner,hown,hr⟩:=h;refine⟨fun k=>if fD k then i.toNat else f k,fun k hk=>(h0 k hk).1,inner,by rw[List.length_zipIdx,List.length_set];rw[List.length_zipIdx]at hown;exact hown,by have:=hr.1;rw[List.length_zipIdx]at this;rw[List.length_zipIdx,List.length_set];exact this,fun m p hm=>?_⟩;rw[List.getElem?_zipIdx,Nat.zero_add]at hm;obtain⟨q,hq,rfl⟩:=Option.map_eq_some_iff.1 hm;have hml:m<xs.length:=by
  have:=(List.getElem?_eq_some_iff.1 hq).1
  rwa [List.length_set]at this
 by_cases yG:m=i.toNat
 ·subst yG;rw[List.getElem?_set_self hml]at hq;(injection hq with hq);subst hq;have hc:=((hr.2 i.toNat _ (y9 (List.getElem?_eq_getElem hml))).1 rfl).1;show d.M w base _ x' ((inner.drop (i.toNat*d.sz)).take d.sz);rw[show(inner.drop (i.toNat*d.sz)).take d.sz=c from hc];exact d.fe (fun k hk=>⟨⟨ho k (hok k hk),fun he=>(h0 k he.symm).2 (hok k hk)⟩,if_pos (hok k hk)⟩) hM
 ·rw[List.getElem?_set_ne (Ne.symm yG)]at hq;exact d.fe (fun k hk=>⟨⟨hk.1.1.1,hk.1.2⟩,(if_neg hk.1.1.2).trans hk.2⟩) ((hr.2 m (q,m) (y9 hq)).2 yG)
theorem ahf(h:H d e w base ok v xs i fD c)(hm: ∀k,ok k→ ¬fD k→k<w.heap.size→w1.heap[k]? =w.heap[k]?):H d e w1 base ok v xs i fD c:=by
 obtain⟨ho,f,h⟩:=h;exact⟨ho,f,CQ h (fun k hk hlt=>hm k hk.1 hk.2 hlt)⟩
theorem ahe{yO:Nat→Prop}(h:H d e w base (fun k=>ok k∧ ¬yO k) v xs i fD c)(hg: ∀k,yO k→ok k):H d e w base ok v xs i (fun k=>fD k∨yO k) c:=by
 obtain⟨ho,f,h⟩:=h;exact⟨fun k hk=>hk.elim (fun h2=>(ho k h2).1) (hg k),f,bE h (fun k hk=>⟨hk.1.1,fun h2=>h2.elim hk.2 hk.1.2⟩)⟩
theorem KG(h:S d e W base ok (.slice (some ⟨g,0,none⟩) n cap) xs)(z:α)(i:Int)(h0:0≤i)(h1:i<n):
  ∃(fD:Nat→Prop) (c:List Value),c.length=d.sz∧d.M W base fD (xs.getD i.toNat z) c∧(∀j u,c[j]? =some u→W.cell? ⟨g,i.toNat*d.sz+j,none⟩=some u)∧(∀j,W.frozen? ⟨g,i.toNat*d.sz+j,none⟩=false)∧(∀k,fD k→ok k∧k≠g)∧H d e W base ok (.slice (some ⟨g,0,none⟩) n cap) xs i fD c:=by
 obtain⟨_,_,_,_,hfr⟩:=iL (uO h) z i h0 h1;obtain⟨fD,c,nU,hM,lf,Mc,hH⟩:=aiz h z i h0 h1;exact⟨fD,c,nU,hM,lf,hfr,Mc,hH⟩
theorem XC(h:H d e W base ok (.slice (some ⟨g,0,none⟩) n cap) xs i fD c)(h0:0≤i)(h1:i<n):
  ∃rows:List (List Value),rows.length=xs.length∧(raw d.sz).R e W base (fun _=>True) (.slice (some ⟨g,0,none⟩) n cap) rows∧c.length=d.sz∧(∀u ∈ c,u.oneCell'=true)∧(∀j u,c[j]? =some u→W.cell? ⟨g,i.toNat*d.sz+j,none⟩=some u)∧
   ∀w1 c',W.grownBy w1 (some g)→(raw d.sz).R e w1 base (fun _=>True) (.slice (some ⟨g,0,none⟩) n cap) (rows.set i.toNat c')→H d e w1 base ok (.slice (some ⟨g,0,none⟩) n cap) xs i fD c':=by
 obtain⟨hoo,f,hR⟩:=h;have hn:=(dH hR).1;rw[List.length_zipIdx]at hn;(have qM:some g=(Value.slice (some ⟨g,0,none⟩) n cap).ownBlock:=by simp[Value.ownBlock]);obtain⟨Tl,inner,ho,hr⟩:=hR;(have kn:i.toNat<xs.length:=by omega);(have hlen:inner.length=xs.length*d.sz:=by have:=hr.1;rw[List.length_zipIdx]at this;exact this);have Tb: ∀k,some k≠(Value.slice (some ⟨g,0,none⟩) n cap).ownBlock→k≠g:=fun k hk he=>hk (by rw[he];exact qM);have LB:=(hr.2 i.toNat _ (y9 (List.getElem?_eq_getElem kn))).1 rfl;rw[LB.1]at LB;have hc:=((hr.2 i.toNat _ (y9 (List.getElem?_eq_getElem kn))).1 rfl).1;refine⟨(List.range xs.length).map fun j=>(inner.drop (j*d.sz)).take d.sz,by rw[List.length_map,List.length_range],⟨fun _ _=>trivial,inner,?_,?_,fun j p hj=>?_⟩,LB.2.1,LB.2.2,fun j u hu=>?_,fun w1 c' hg H6=>?_⟩
 ·rw[List.length_map,List.length_range];rw[List.length_zipIdx]at ho;exact ho
 ·rw[List.length_map,List.length_range];exact hlen
 ·rw[List.getElem?_map]at hj;obtain⟨j',hj',rfl⟩:=Option.map_eq_some_iff.1 hj;obtain⟨hl,he⟩:=List.getElem?_eq_some_iff.1 hj';rw[List.getElem_range]at he;subst he;rw[List.length_range]at hl;have hm:=(Ll f d i.toNat c).gL (hr.2 j _ (y9 (List.getElem?_eq_getElem hl)));exact⟨rfl,(Ll f d i.toNat c).jt hm,(Ll f d i.toNat c).iT hm⟩
 ·rw[←hc,List.getElem?_take]at hu;split at hu
  ·rw[List.getElem?_drop]at hu;have:=ho.cells (g:=g) qM.symm _ u hu
   rwa [add_plain]at this
  ·cases hu
 ·obtain⟨_,inner',ho',hr'⟩:=H6;(have hl':inner'.length=xs.length*d.sz:=by have:=hr'.1;rw[List.length_set,List.length_map,List.length_range]at this;exact this);rw[List.length_set,List.length_map,List.length_range]at ho';refine⟨hoo,f,Tl,inner',by rw[List.length_zipIdx];exact ho',by rw[List.length_zipIdx];exact hl',fun m p hm=>?_⟩;rw[List.getElem?_zipIdx,Nat.zero_add]at hm;obtain⟨q,hq,rfl⟩:=Option.map_eq_some_iff.1 hm;have hml:m<xs.length:=(List.getElem?_eq_some_iff.1 hq).1;have hold:=hr.2 m (q,m) (y9 hq);refine⟨fun hx=>?_,fun hx=>?_⟩
  ·have hx':m=i.toNat:=hx;subst hx';exact hr'.2 i.toNat c' (List.getElem?_set_self (by rw[List.length_map,List.length_range];exact hml))
  ·have hx':m≠i.toNat:=hx;have hcm:=(hr'.2 m ((inner.drop (m*d.sz)).take d.sz) (by
    rw[List.getElem?_set_ne (Ne.symm hx'),List.getElem?_map,List.getElem?_eq_getElem (by rw[List.length_range];exact hml),List.getElem_range];rfl)).1
   show d.M w1 base _ q ((inner'.drop (m*d.sz)).take d.sz);rw[show(inner'.drop (m*d.sz)).take d.sz=_ from hcm];exact d.fe (fun k hk=>hk.1) (d.jv (w1:=w1) (fun k hk=>hg.block k hk.2.2.1 (fun he=>Tb k hk.1.1.2 (by injection he))) (d.ju (hold.2 hx)))
theorem XD(h:H d e W base ok (.slice (some ⟨g,0,none⟩) n cap) xs i fD c)(h0:0≤i)(h1:i<n){seg:List Value}{j:Nat}(hj:j+seg.length≤d.sz)(hone: ∀q ∈ seg,q.oneCell'=true):
  H d e (W.setCells g (i.toNat*d.sz+j) seg) base ok (.slice (some ⟨g,0,none⟩) n cap) xs i fD (c.take j++seg++c.drop (j+seg.length))∧W.grownBy (W.setCells g (i.toNat*d.sz+j) seg) (some g):=by
 obtain⟨rows,_,H6,nU,hco,lf,alo⟩:=XC h h0 h1;obtain⟨h2,h3⟩:=o3 H6 i h0 h1 (c:=c) (seg:=seg) (j:=j) (x':=c.take j++seg++c.drop (j+seg.length)) (cr:=fun _=>False) nU lf hj
  ⟨rfl,by
   show(c.take j++seg++c.drop (j+seg.length)).length=d.sz;simp only[List.length_append,List.length_take,List.length_drop];omega,fun u hu=>by
   rcases List.mem_append.1 hu with hu|hu
   ·rcases List.mem_append.1 hu with hu|hu
    ·exact hco u (List.mem_of_mem_take hu)
    ·exact hone u hu
   ·exact hco u (List.mem_of_mem_drop hu)⟩ (fun _ hk=>hk.elim)
 exact⟨alo _ _ h3 h2,h3⟩
theorem Yh{yO:Nat→Prop}(hH:H d e W base (fun k=>ok k∧ ¬yO k) (.slice (some ⟨g,0,none⟩) n cap) xs i fD c)(h0:0≤i)(h1:i<n){seg:List Value}{j:Nat}(hj:j+seg.length≤d.sz)
  {x':α} (hM:d.M W base cr x' (c.take j++seg++c.drop (j+seg.length))) (jQ: ∀k,cr k→fD k∨yO k) (hg: ∀k,yO k→ok k∧k≠g):
  S d e (W.setCells g (i.toNat*d.sz+j) seg) base ok (.slice (some ⟨g,0,none⟩) n cap) (xs.set i.toNat x')∧W.grownBy (W.setCells g (i.toNat*d.sz+j) seg) (some g):=by
 have hne: ∀k,fD k∨yO k→k≠g:=by
  intro k hk he;subst he;rcases hk with hk|hk
  ·obtain⟨_,f,hR⟩:=hH;exact(hR.1 k (by simp[Value.ownBlock])).2 hk
  ·exact(hg k hk).2 rfl
 obtain⟨h2,h3⟩:=XD (ahe hH (fun k hk=>(hg k hk).1)) h0 h1 hj (fun q hq=>d.iT (d.gL hM) q (List.mem_append_left _ (List.mem_append_right _ hq)));exact⟨XA h2 (Pd hM (fun k hk hlt=>h3.block k hlt (fun he=>hne k (jQ k hk) (by injection he)))) jQ,h3⟩
end
end Kd
end Go.Proofs.YtbpjidekjogfeaaW.cv
