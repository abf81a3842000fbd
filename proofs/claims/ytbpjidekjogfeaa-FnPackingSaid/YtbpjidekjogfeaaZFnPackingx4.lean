/- Used by the law FnPacking. -/
import Derived.Test.YtbpjidekjogfeaaZFnPackingx0
import Derived.Test.YtbpjidekjogfeaaZFnPackingx2
namespace Go.Proofs.YtbpjidekjogfeaaW.cK
open Go.RowKit
namespace Kd
def tag{α:Type}(f:Nat→Nat)(d:Kd α):Kd (α×Nat) where
 sz:=d.sz
 E:=d.E
 K:=fun w x cs=>d.K w x.1 cs
 M:=fun w base ok x cs=>d.M w base (fun k=>ok k∧f k=x.2) x.1 cs
 l9:=fun h=>d.l9 h
 lN:=fun h=>d.lN h
 pZ:=fun hb h=>d.pZ hb h
 kK:=fun h=>d.kK h
 iV:=fun hok h=>d.iV (fun k hk=>⟨hok k hk.1,hk.2⟩) h
 mb:=fun h=>d.iV (fun _ hk=>⟨⟨hk.1.1,hk.2⟩,hk.1.2⟩) (d.mb h)
 mc:=fun hm h=>d.mc (fun k hk=>hm k hk.1) h
 p5:=fun hb h=>d.p5 hb h
def bare{α:Type}(d:Kd α):Kd α where
 sz:=d.sz
 E:=d.E
 K:=d.K
 M:=fun w base _ x cs=>d.M w base (fun _=>False) x cs
 l9:=fun h=>d.l9 h
 lN:=fun h=>d.lN h
 pZ:=fun hb h=>d.pZ hb h
 kK:=fun h=>d.kK h
 iV:=fun _ h=>h
 mb:=fun h=>h
 mc:=fun _ h=>d.mc (fun _ hk=>hk.elim) h
 p5:=fun hb h=>d.p5 hb h
def raw(sz:Nat):Kd (List Value) where
 sz:=sz
 E:= []
 K:=fun _ x cs=>cs=x∧cs.length=sz∧ ∀u ∈ cs,u.oneCell'=true
 M:=fun _ _ _ x cs=>cs=x∧cs.length=sz∧ ∀u ∈ cs,u.oneCell'=true
 l9:=fun h=>h.2.1
 lN:=fun h=>h.2.2
 pZ:=fun _ h=>h
 kK:=fun h=>h
 iV:=fun _ h=>h
 mb:=fun h=>h
 mc:=fun _ h=>h
 p5:=fun _ h=>h
def S{α:Type}(d:Kd α)(e:Nat)(w:World)(base:Nat)(ok:Nat→Prop)(v:Value)(xs:List α):Prop:= ∃f,(tag f d).R e w base ok v xs.zipIdx
section
variable {α β:Type} {d:Kd α} {d':Kd β} {e e':Nat} {w w1 W:World} {base b:Nat} {ok ok' LB oku:Nat→Prop} {u v:Value} {xs:List α} {ys:List β}
theorem aHy{xs:List α}{j:Nat}{p:α}(h:xs[j]? =some p):xs.zipIdx[j]? =some (p,j):=by rw[List.getElem?_zipIdx,h,Nat.zero_add];rfl
theorem Kg(h:S d e w base ok v xs):d.R e w base ok v xs:=by
 obtain⟨f,h0,inner,ho,hr⟩:=h;rw[List.length_zipIdx]at ho;exact⟨h0,inner,ho,by have:=hr.1;rw[List.length_zipIdx]at this;exact this,fun j p hj=>d.iV (fun _ hk=>hk.1) (hr.2 j (p,j) (aHy hj))⟩
theorem awh{ad:Addr}{n cap:Nat}(h:d.R e w base ok (.slice (some ad) n cap) xs): ∃g,ad=⟨g,0,none⟩:=by
 obtain⟨_,inner,ho,hr⟩:=h;rcases ho.2 with⟨hv,_⟩|⟨g,cap',cur,hv,_⟩
 ·cases hv
 ·(injection hv with ha _ _);(injection ha with ha);exact⟨g,ha⟩
theorem rV(hE:d.E= [])(h:d.R e w base ok v xs):d.R e w base (fun k=>some k=v.ownBlock) v xs:=by
 obtain⟨h0,inner,ho,hr⟩:=h;refine⟨fun k hk=>hk.symm,inner,ho,hr.oa (fun p c hp=>d.iV (fun k hk=>?_) (d.mb hp))⟩;obtain⟨_,_,_,q,hq,_⟩:=hk;rw[hE]at hq;cases hq
theorem mN(d:Kd α)(e:Nat)(w:World)(base:Nat)(ok:Nat→Prop):S d e w base ok (.slice none 0 0) []:=⟨fun _=>0,j7 _ _ _ _ _⟩
theorem rX(h:S d e w base ok v xs)(hok: ∀k,ok k→ok' k):S d e w base ok' v xs:=by
 obtain⟨f,h⟩:=h;exact⟨f,aK h hok⟩
theorem Ar(h:S d e w base ok v xs):S d e w base (fun k=>ok k∧base≤k∧k<w.heap.size∧ ∃q,q ∈ e::d.E∧ ∃cells,w.heap[k]? =some (.cells cells q (0,0))) v xs:=by
 obtain⟨f,h⟩:=h;exact⟨f,uv h⟩
theorem awr(h:S d e w base ok v xs)(hm: ∀k,ok k→w1.heap[k]? =w.heap[k]?):S d e w1 base ok v xs:=by
 obtain⟨f,h⟩:=h;exact⟨f,Ke h hm⟩
theorem awq{base':Nat}(h:S d e w base ok v xs)(hb:base'≤base):S d e w base' ok v xs:=by
 obtain⟨f,h⟩:=h;exact⟨f,cv h hb⟩
theorem ZT(h:S d e w base ok v xs)(hm: ∀k,ok k→k<w.heap.size→w1.heap[k]? =w.heap[k]?):S d e w1 base ok v xs:=
 rX (awr (Ar h) (fun k hk=>hm k hk.1 hk.2.2.1)) (fun _ hk=>hk.1)
theorem Kh(h:S d e w base ok v xs)(hb:Below w.heap.size w w1):S d e w1 base ok v xs:=ZT h (fun k _ hk=>hb.block k hk)
theorem vu(h:S d e w base ok v xs)(o:Obj):S d e (w.alloc o) base ok v xs:=Kh h (jr (Below.refl _ _) o)
theorem vv(h:S d e w base ok v xs):S d e w.drew base ok v xs:=Kh h (NK (Below.refl _ _))
theorem vw(h:S d e w base ok v xs)(m:Nat):S d e (w.drewN m) base ok v xs:=Kh h (gG (Below.refl _ _) m)
theorem Ki(h:S d e w base ok v xs){p:Addr}(hok: ∀k,ok k→k≠p.block)(u:Value):S d e (w.setCell p u) base ok v xs:=ZT h (fun k ho _=>Below.heap_setCell w p u k (hok k ho))
theorem ajs(h:S d e w base ok v xs){g:Nat}(hk:aT w w1 g none)(hok: ∀k,ok k→k≠g):S d e w1 base ok v xs:=ZT h (fun k ho hlt=>hk.2 k hlt (hok k ho) (by simp))
theorem awx(h:S d e w base ok v xs){g t:Nat}{cells:Array Value}(hb:w.heap[g]? =some (.cells cells t (0,0)))(ht: ∀q,q ∈ e::d.E→q≠t):S d e w base (fun k=>ok k∧k≠g) v xs:=by
 obtain⟨f,h⟩:=h;exact⟨f,bQ h hb ht⟩
theorem DL(h:S d e w base ok v xs): ∀k,v.ownBlock=some k→ ∃cells,w.heap[k]? =some (.cells cells e (0,0)):=kM (Kg h)
theorem awt(h:S d e W base ok u xs)(hb:Below W.heap.size W w1):S d e w1 base (fun k=>ok k∧k<W.heap.size) u xs:=
 rX (Kh (Ar h) hb) (fun _ hk=>⟨hk.1,hk.2.2.1⟩)
theorem awn(h:(bare d).R e w base ok v xs):S d e w base ok v xs:=by
 obtain⟨h0,inner,ho,hr⟩:=h;refine⟨fun _=>0,h0,inner,by rw[List.length_zipIdx];exact ho,by rw[List.length_zipIdx];exact hr.1,fun j p hj=>?_⟩;rw[List.getElem?_zipIdx,Nat.zero_add]at hj;obtain⟨x,hx,rfl⟩:=Option.map_eq_some_iff.1 hj;exact d.iV (fun _ hk=>hk.elim) (hr.2 j x hx)
theorem awk{f f':Nat→Nat}{zs:List (α×Nat)}(h:(tag f d).R e w base ok v zs)(hf: ∀k,ok k→k<w.heap.size→f' k=f k):(tag f' d).R e w base ok v zs:=by
 obtain⟨h0,inner,ho,hr⟩:=uv h;exact⟨fun k hk=>(h0 k hk).1,inner,ho,hr.1,fun j p hj=>d.iV (fun k hk=>⟨⟨hk.1.1.1,hk.1.2⟩,(hf k hk.1.1.1 hk.1.1.2.2.1).trans hk.2⟩) (hr.2 j p hj)⟩
end
section
variable {α β:Type} {d:Kd α} {d':Kd β} {e e' g:Nat} {w w1 W:World} {base b:Nat} {ok ok' LB oku:Nat→Prop} {u v:Value} {xs:List α} {ys:List β}
theorem aws(h:S d e w base ok v xs){t:Nat}{cells:Array Value}(hb:w.heap[g]? =some (.cells cells t (0,0)))(ht:e≠t):some g≠v.ownBlock:=dh (Kg h) hb ht
theorem ajq(h:S d e w base ok v xs)(hok: ∀k,ok k→k≠g):some g≠v.ownBlock:=FB (Kg h) hok
theorem awo(h:S d e w base ok v xs):v.ownBlock=none∨ ∃k,v.ownBlock=some k∧base≤k:=Ka (Kg h)
theorem awv(h:S d e w base ok v xs): ∃A c,v= .slice A xs.length c:=bS (Kg h)
theorem ajr(h:S d e w base ok v xs)(a:Nat)(ha:w.heap.size≤a):S d e w base (fun k=>ok k∧k≠a) v xs:=rX (Ar h) (fun k hk=>⟨hk.1,by have:=hk.2.2.1;omega⟩)
theorem awu(hu:S d e W base (fun k=>ok k∧k≠g) u xs)(hk:aT W w1 g none):S d e w1 base (fun k=>ok k∧k<W.heap.size) u xs:=
 rX (ajs (Ar hu) hk (fun _ h=>h.1.2)) (fun _ h=>⟨h.1.1,h.2.2.1⟩)
theorem TD{N:Nat}(h:S d e w1 base (fun k=>ok k∧k<N) u xs)(hbase: ∀k,v.ownBlock=some k→N≤k):S d e w1 base (fun k=>(ok k∧some k≠v.ownBlock)∧k<N) u xs:=
 rX h (fun k hk=>⟨⟨hk.1,fun e=>Nat.lt_irrefl _ (Nat.lt_of_lt_of_le hk.2 (hbase k e.symm))⟩,hk.2⟩)
theorem aHz(xs:List α)(p:α):(xs++ [p]).zipIdx=xs.zipIdx++ [(p,xs.length)]:=by rw[List.zipIdx_append];simp
end
section
open Classical in
theorem aww{α:Type}{d:Kd α}{e base:Nat}{LB:Nat→Prop}{w:World}{v:Value}{xs:List α}(h:S d e w base LB v xs)(m:Nat)(cV:Nat→Prop)(hap: ∀k,cV k→ ¬LB k): ∃f,(∀k,cV k→f k=m)∧(tag f d).R e w base LB v xs.zipIdx:=by
 obtain⟨f,h⟩:=h;exact⟨fun k=>if cV k then m else f k,fun k hk=>if_pos hk,awk h (fun k hk _=>if_neg (fun h2=>hap k h2 hk))⟩
variable {P:Program} {ops:Array Oper} {rest:List Oper} {o:Oper} {a:Act} {Q:Exit→Act→World→Prop} {Kc:Act→World→Prop} {α:Type}
theorem ajp(d:Kd α){w0 W:World}(base:Nat)(hgd:o.guard=none)(s x:Operand)(t e:TypeId)(z:Value)(bytes:Nat)
  (ho:o.op= .call {callee:= .builtin .append,args:= #[s,x],argTypes:= #[t,t]})
  (ht:P.underlying t=some (.slice e)) (hinfo:(P.info? e).map (fun i=>(i.zero,i.size,i.bytes))=some (some z,d.sz,bytes)) (hz:z.cells.size=d.sz) (hs0:0<d.sz) (hb0:0<bytes)
  (v:Value) (xs:List α) (p:α) (cs:List Value) (ok cV:Nat→Prop) (hs:a.eval s=v) (hx:a.eval x= .slice (some ⟨W.heap.size,0,none⟩) 1 1) (hp:d.M W base cV p cs) (mC: ∀k,cV k→ok k∧some k≠v.ownBlock) (kS: ∀k,W.heap.size≤k→ok k)
  (HO:S d e W base (fun k=>ok k∧ ¬cV k) v xs) (HB:Below base w0 W) (hbase:base≤W.heap.size) (hl:(xs.length+1)*bytes≤140737488355328)
  (h: ∀v1 w1,S d e w1 base ok v1 (xs++ [p])→Below base w0 w1→W.grownBy w1 v.ownBlock→(v1.ownBlock=v.ownBlock∨ ∃b,v1.ownBlock=some b∧W.heap.size≤b)→wpList P ops Q rest (a.put o.dst v1) w1):
  wpList P ops Q (o::rest) a (W.alloc (.cells cs.toArray e)):=by
 obtain⟨f,hf,hR⟩:=aww HO xs.length cV (fun _ hk h2=>h2.2 hk);refine kL (tag f d) base hgd s x t e z bytes ho ht hinfo hz hs0 hb0 v xs.zipIdx (p,xs.length) cs ok cV hs hx (d.iV (fun k hk=>⟨hk,hf k hk⟩) hp) mC kS (aK hR (fun _ hk=>hk.1)) HB hbase (by rw[List.length_zipIdx];exact hl) ?_;intro v1 w1 hr;rw[←aHz]at hr;exact h v1 w1 ⟨f,hr⟩
theorem awp(d:Kd α){w0 W:World}(base e:Nat)(hgd:o.guard=none){N:Tmp}(_hd:o.dst=some N){xs:List α}{inner:List Value}{ok cV:Nat→Prop}
  (hrun:(execOp a.eval o).run P W= .ok (.value (.slice (some ⟨W.heap.size,0,none⟩) xs.length xs.length)) (W.alloc (.cells inner.toArray e)))
  (AV:bU (d.M W base (fun _=>False)) d.sz xs inner) (_hok: ∀k,cV k→ok k) (kS:ok W.heap.size) (HB:Below base w0 W) (hbase:base≤W.heap.size) (hm:xs.length≤9223372036854775807)
  (h: ∀v1 w1,S d e w1 base ok v1 xs→Below base w0 w1→W.grownBy w1 none→(∃b,v1.ownBlock=some b∧W.heap.size≤b)→wpList P ops Q rest (a.put o.dst v1) w1):wpList P ops Q (o::rest) a W:=
 lO (bare d) base e hgd _hd (ok:=ok) (cV:=ok) hrun AV (fun _ hk=>hk) kS HB hbase hm (fun v1 w1 hr=>h v1 w1 (awn hr))
end
def gap{α:Type}(f:Nat→Nat)(d:Kd α)(i:Nat)(c:List Value):Kd (α×Nat) where
 sz:=d.sz
 E:=d.E
 K:=fun w x cs=>(x.2=i→cs=c∧cs.length=d.sz∧ ∀u ∈ cs,u.oneCell'=true)∧(x.2≠i→d.K w x.1 cs)
 M:=fun w base ok x cs=>(x.2=i→cs=c∧cs.length=d.sz∧ ∀u ∈ cs,u.oneCell'=true)∧(x.2≠i→d.M w base (fun k=>ok k∧f k=x.2) x.1 cs)
 l9:=fun{w x cs} h=>by
  by_cases hx:x.2=i
  ·exact(h.1 hx).2.1
  ·exact d.l9 (h.2 hx)
 lN:=fun{w x cs} h=>by
  by_cases hx:x.2=i
  ·exact(h.1 hx).2.2
  ·exact d.lN (h.2 hx)
 pZ:=fun hb h=>⟨h.1,fun hx=>d.pZ hb (h.2 hx)⟩
 kK:=fun h=>⟨h.1,fun hx=>d.kK (h.2 hx)⟩
 iV:=fun hok h=>⟨h.1,fun hx=>d.iV (fun k hk=>⟨hok k hk.1,hk.2⟩) (h.2 hx)⟩
 mb:=fun h=>⟨h.1,fun hx=>d.iV (fun _ hk=>⟨⟨hk.1.1,hk.2⟩,hk.1.2⟩) (d.mb (h.2 hx))⟩
 mc:=fun hm h=>⟨h.1,fun hx=>d.mc (fun k hk=>hm k hk.1) (h.2 hx)⟩
 p5:=fun hb h=>⟨h.1,fun hx=>d.p5 hb (h.2 hx)⟩
def H{α:Type}(d:Kd α)(e:Nat)(w:World)(base:Nat)(ok:Nat→Prop)(v:Value)(xs:List α)(i:Int)(oki:Nat→Prop)(c:List Value):Prop:=
 (∀k,oki k→ok k)∧ ∃f,(gap f d i.toNat c).R e w base (fun k=>ok k∧ ¬oki k) v xs.zipIdx
end Kd
end Go.Proofs.YtbpjidekjogfeaaW.cK
