/- Used by the law FnBanks. -/
import Derived.Test.YtbpjidekjogfeaaZFnBanksx9
import Derived.Test.YtbpjidekjogfeaaZFnBanksx6
namespace Go.Proofs.YtbpjidekjogfeaaW.cN
open Go.RowKit
namespace Kd
def chunks(sz:Nat)(n:Nat)(inner:List Value):List (List Value):=(List.range n).map fun j=>(inner.drop (j*sz)).take sz
theorem EH(sz n:Nat)(inner:List Value):(chunks sz n inner).length=n:=by simp[chunks]
theorem axX{sz n:Nat}{inner:List Value}{j:Nat}(hj:j<n):(chunks sz n inner)[j]? =some ((inner.drop (j*sz)).take sz):=by simp[chunks,hj]
theorem aaV{sz n:Nat}{inner:List Value}{j:Nat}{c:List Value}(h:(chunks sz n inner)[j]? =some c):c=(inner.drop (j*sz)).take sz:=by
 (have hj:j<n:=by have:=(List.getElem?_eq_some_iff.1 h).1;rwa [EH]at this);rw[axX hj]at h;(injection h with h);exact h.symm
theorem aqJ{α:Type}{Rr:α→List Value→Prop}{sz:Nat}{xs:List α}{inner:List Value}(h:cv Rr sz xs inner)(hR: ∀x c,Rr x c→c.length=sz∧ ∀u ∈ c,u.oneCell'=true):cv (fun x cs=>cs=x∧cs.length=sz∧ ∀u ∈ cs,u.oneCell'=true) sz (chunks sz xs.length inner) inner:=by
 refine⟨by rw[EH];exact h.1,fun j p hj=>?_⟩;(have hjl:j<xs.length:=by have:=(List.getElem?_eq_some_iff.1 hj).1;rwa [EH]at this);have hp:=aaV hj;exact⟨hp.symm,hR _ _ (h.2 j _ (List.getElem?_eq_getElem hjl))⟩
section
variable {α:Type} {d:Kd α} {e base n cc g:Nat} {ok ok' dz S:Nat→Prop} {w w1 W W1:World} {A:Option Addr} {u v v1:Value} {xs:List α} {x:α} {c:List Value}
def N{α:Type}(d:Kd α)(e:Nat)(w:World)(base:Nat)(ok:Nat→Prop)(v:Value)(xs:List α):Prop:=
 (∀k,v.ownBlock=some k→ok k)∧ ∃rows:List (List Value),rows.length=xs.length∧(raw d.sz).R e w base (fun k=>some k=v.ownBlock) v rows∧ ∀(j:Nat) (x:α) (c:List Value),xs[j]? =some x→rows[j]? =some c→FK d w (fun k=>ok k∧some k≠v.ownBlock) x c
theorem afr{sz:Nat}{rows:List (List Value)}(h:(raw sz).R e w base ok v rows):(raw sz).R e w base (fun k=>some k=v.ownBlock) v rows:=vJ rfl h
theorem aqE{sz:Nat}{rows:List (List Value)}(h:(raw sz).R e w base ok v rows):(raw sz).R e w base (fun _=>True) v rows:=aQ h (fun _ _=>trivial)
theorem R_N(h:d.R e w base ok v xs):N d e w base ok v xs:=by
 obtain⟨h0,inner,ho,hr⟩:=h;refine⟨h0,chunks d.sz xs.length inner,EH _ _ _,⟨fun k hk=>hk.symm,inner,by rw[EH];exact ho,aqJ hr (fun x c hp=>⟨d.lW (d.jZ hp),d.k6 (d.jZ hp)⟩)⟩,fun j x c hx hc=>?_⟩;rw[aaV hc];exact as7 (hr.2 j x hx)
theorem oC(h:Kd.S d e w base ok v xs):N d e w base ok v xs:=R_N (CD h)
theorem qD(d:Kd α)(e:Nat)(w:World)(base:Nat)(ok:Nat→Prop):N d e w base ok (.slice none 0 0) []:=R_N (mM _ _ _ _ _)
theorem bq(h:N d e w base ok v xs)(hok: ∀k,ok k→ok' k):N d e w base ok' v xs:=by
 obtain⟨h0,rows,hl,hR,hf⟩:=h;exact⟨fun k hk=>hok k (h0 k hk),rows,hl,hR,fun j x c hx hc=>F3 (hf j x c hx hc) (fun k hk=>⟨hok k hk.1,hk.2⟩)⟩
theorem sx(h:N d e w base ok v xs): ∀k,v.ownBlock=some k→k<w.heap.size:=by
 obtain⟨_,rows,_,hR,_⟩:=h;exact oc hR
theorem p5(h:N d e w base ok v xs): ∀k,v.ownBlock=some k→base≤k:=by
 obtain⟨_,rows,_,hR,_⟩:=h;exact dM hR
theorem ZT(h:N d e w base ok v xs):v.ownBlock=none∨ ∃k,v.ownBlock=some k∧base≤k:=by
 obtain⟨_,rows,_,hR,_⟩:=h;exact TC hR
theorem wX(h:N d e w base ok v xs): ∀k,v.ownBlock=some k→ ∃cells,w.heap[k]? =some (.cells cells e (0,0)):=by
 obtain⟨_,rows,_,hR,_⟩:=h;exact p9 hR
theorem avD(h:N d e w base ok v xs){t:Nat}{cells:Array Value}(hb:w.heap[g]? =some (.cells cells t (0,0)))(ht:e≠t):some g≠v.ownBlock:=by
 obtain⟨_,rows,_,hR,_⟩:=h;exact dg hR hb ht
theorem Gu(h:N d e w base ok v xs)(hok: ∀k,ok k→k≠g):some g≠v.ownBlock:=fun he=>hok g (h.1 g he.symm) rfl
theorem Tv(h:N d e w base ok v xs):N d e w base (fun k=>ok k∧k<w.heap.size) v xs:=by
 have hlt:=sx h;obtain⟨h0,rows,hl,hR,hf⟩:=h;exact⟨fun k hk=>⟨h0 k hk,hlt k hk⟩,rows,hl,hR,fun j x c hx hc=>F3 (YR (hf j x c hx hc)) (fun k hk=>⟨⟨hk.1.1,hk.2⟩,hk.1.2⟩)⟩
theorem nM{base':Nat}(h:N d e w base ok v xs)(hb:base'≤base):N d e w base' ok v xs:=by
 obtain⟨h0,rows,hl,hR,hf⟩:=h;exact⟨h0,rows,hl,cP hR hb,hf⟩
theorem ZV(h:N d e w base ok v xs)(hm: ∀k,ok k→k<w.heap.size→w1.heap[k]? =w.heap[k]?):N d e w1 base ok v xs:=by
 obtain⟨h0,rows,hl,hR,hf⟩:=h;exact⟨h0,rows,hl,Nc hR (fun k hk hlt=>hm k (h0 k hk.symm) hlt),fun j x c hx hc=>MM (hf j x c hx hc) (fun k hk hlt=>hm k hk.1 hlt)⟩
theorem cg(h:N d e w base ok v xs)(hb:Below w.heap.size w w1):N d e w1 base ok v xs:=ZV h (fun k _ hk=>hb.block k hk)
theorem avy(h:N d e w base ok v xs)(o:Obj):N d e (w.alloc o) base ok v xs:=cg h (kN (Below.refl _ _) o)
theorem ZU(h:N d e w base ok v xs):N d e w.drew base ok v xs:=cg h (Np (Below.refl _ _))
theorem avA(h:N d e w base ok v xs)(m:Nat):N d e (w.drewN m) base ok v xs:=cg h (jB (Below.refl _ _) m)
theorem bn(h:N d e w base ok v xs){p:Addr}(hok: ∀k,ok k→k≠p.block)(u:Value):N d e (w.setCell p u) base ok v xs:=ZV h (fun k ho _=>Below.heap_setCell w p u k (hok k ho))
theorem Er(h:N d e w base ok v xs)(hk:aW w w1 g none)(hok: ∀k,ok k→k≠g):N d e w1 base ok v xs:=ZV h (fun k ho hlt=>hk.2 k hlt (hok k ho) (by simp))
theorem g9(h:N d e W base ok v xs)(hbase: ∀k,u.ownBlock=some k→W.heap.size≤k)(hb:Below W.heap.size W w1):N d e w1 base (fun k=>ok k∧some k≠u.ownBlock) v xs:=
 bq (cg (Tv h) hb) (fun k hk=>⟨hk.1,fun he=>by have:=hbase k he.symm;have:=hk.2;omega⟩)
theorem k7(h:N d e w base ok v xs)(a:Nat)(ha:w.heap.size≤a):N d e w base (fun k=>ok k∧k≠a) v xs:=bq (Tv h) (fun k hk=>⟨hk.1,by have:=hk.2;omega⟩)
theorem aiN(h:N d e W base ok v xs)(hb:Below W.heap.size W w1):N d e w1 base (fun k=>ok k∧k<W.heap.size) v xs:=cg (Tv h) hb
theorem avE(h:N d e W base (fun k=>ok k∧k≠g) v xs)(hk:aW W w1 g none):N d e w1 base (fun k=>ok k∧k<W.heap.size) v xs:=bq (Er (Tv h) hk (fun _ hk=>hk.1.2)) (fun _ hk=>⟨hk.1.1,hk.2⟩)
theorem Kr{b:Nat}(h:N d e w1 base (fun k=>ok k∧k<b) v xs)(hbase: ∀k,u.ownBlock=some k→b≤k):N d e w1 base (fun k=>(ok k∧some k≠u.ownBlock)∧k<b) v xs:=
 bq h (fun k hk=>⟨⟨hk.1,fun e=>Nat.lt_irrefl _ (Nat.lt_of_lt_of_le hk.2 (hbase k e.symm))⟩,hk.2⟩)
theorem n9(h:N d e w base ok v xs): ∃A c,v= .slice A xs.length c:=by
 obtain⟨_,rows,hl,hR,_⟩:=h;obtain⟨A,c,he⟩:=cE hR;exact⟨A,c,by rw[he,hl]⟩
theorem aiL(h:N d e w base ok v xs)(hp:0<xs.length): ∃g cap,v= .slice (some ⟨g,0,none⟩) xs.length cap∧base≤g∧g<w.heap.size∧ ∃cells,w.heap[g]? =some (.cells cells e (0,0)):=by
 obtain⟨_,rows,hl,hR,_⟩:=h;rw[←hl]at hp⊢;exact CC hR hp
theorem cn{n c:Nat}(h:N d e w base ok (.slice A n c) xs):n=xs.length∧n≤c∧d.C w A xs.length xs:=by
 obtain⟨_,rows,hl,hR,hf⟩:=h;obtain⟨hn,hc,hC⟩:=cM hR;refine⟨by omega,hc,?_⟩;rw[hl]at hC;refine⟨rfl,hC.2.1,fun hp=>?_⟩;obtain⟨ad,he,hcell⟩:=hC.2.2 hp;refine⟨ad,he,fun j p hj=>?_⟩;(have hjl:j<rows.length:=by have:=(List.getElem?_eq_some_iff.1 hj).1;omega);obtain⟨c',uN,hK,tK⟩:=hcell j _ (List.getElem?_eq_getElem hjl);have hk:=Eh (hf j p _ hj (List.getElem?_eq_getElem hjl));refine⟨c',uN,?_,tK⟩;rw[show c'=rows[j] from hK.1];exact hk
theorem Kq{n cap:Nat}(h:N d e W base ok (.slice (some ⟨g,0,none⟩) n cap) xs)(z:α)(i:Int)(h0:0≤i)(h1:i<n):
  ∃c,c.length=d.sz∧FK d W (fun k=>ok k∧k≠g) (xs.getD i.toNat z) c∧(∀j u,c[j]? =some u→W.cell? ⟨g,i.toNat*d.sz+j,none⟩=some u)∧ ∀j,W.frozen? ⟨g,i.toNat*d.sz+j,none⟩=false:=by
 obtain⟨_,rows,hl,hR,hf⟩:=h;have hn:=(cM hR).1;obtain⟨c,uN,hM,tK,hfr⟩:=oa hR [] i h0 h1;(have qN:i.toNat<rows.length:=by omega);(have aox:i.toNat<xs.length:=by omega);have hc:c=rows[i.toNat]:=by
  have h2:=hM.1
  rwa [List.getD_eq_getElem?_getD,List.getElem?_eq_getElem qN]at h2
 refine⟨c,uN,?_,tK,hfr⟩;rw[List.getD_eq_getElem?_getD,List.getElem?_eq_getElem aox];exact F3 (hf _ _ _ (List.getElem?_eq_getElem aox) (by rw[hc];exact List.getElem?_eq_getElem qN)) (fun k hk=>⟨hk.1,fun he=>hk.2 (by rw[he];simp[Value.ownBlock])⟩)
theorem aiM{ad:Addr}{n cap:Nat}(h:N d e W base ok (.slice (some ad) n cap) xs)(z:α)(i:Int)(h0:0≤i)(h1:i<n):
  ∃c,c.length=d.sz∧FK d W (fun k=>ok k∧some k≠(Value.slice (some ad) n cap).ownBlock) (xs.getD i.toNat z) c∧ ∀j u,c[j]? =some u→W.cell? (ad.add (i.toNat*d.sz+j))=some u:=by
 obtain⟨g,rfl⟩: ∃g,ad=⟨g,0,none⟩:=by
  obtain⟨_,rows,_,hR,_⟩:=h;exact awi hR
 obtain⟨c,uN,hM,tK,_⟩:=Kq h z i h0 h1;refine⟨c,uN,F3 hM (fun k hk=>⟨hk.1,fun he=>hk.2 (by simpa[Value.ownBlock]using he)⟩),fun j u hu=>?_⟩;rw[yo,Nat.zero_add];exact tK j u hu
end
end Kd
end Go.Proofs.YtbpjidekjogfeaaW.cN
