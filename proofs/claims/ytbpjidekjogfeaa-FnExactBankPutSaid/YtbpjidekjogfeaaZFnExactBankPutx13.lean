/- Used by the law FnExactBankPut. -/
import Derived.Test.YtbpjidekjogfeaaZFnExactBankPutx12
namespace Go.Proofs.YtbpjidekjogfeaaW.dN
open Go.RowKit Go.Proofs.YtbpjidekjogfeaaW.cv
namespace Kd
open Go.Proofs.YtbpjidekjogfeaaW.cv.Kd
end Kd
theorem gO(k k':IntKind)(x y:Int):Builtin.max2 (.int k x) (.int k' y)=pure (.int k (if x<y then y else x)):=by simp only[Builtin.max2,gt_iff_lt]
theorem gS(k k':IntKind)(x y:Int):Builtin.min2 (.int k x) (.int k' y)=pure (.int k (if y<x then y else x)):=by simp only[Builtin.min2]
theorem gR(ats:Array TypeId)(ty:TypeId)(a b:Value):Builtin.max_ ats ty #[a,b]=(Builtin.max2 a b>>=fun s=>pure s):=by simp only[Builtin.max_,List.foldlM_cons,List.foldlM_nil]
theorem gV(ats:Array TypeId)(ty:TypeId)(a b:Value):Builtin.min_ ats ty #[a,b]=(Builtin.min2 a b>>=fun s=>pure s):=by simp only[Builtin.min_,List.foldlM_cons,List.foldlM_nil]
theorem gQ(ats:Array TypeId)(ty:TypeId)(a b c:Value):Builtin.max_ ats ty #[a,b,c]=(Builtin.max2 a b>>=fun s=>Builtin.max2 s c>>=fun s=>pure s):=by simp only[Builtin.max_,List.foldlM_cons,List.foldlM_nil]
theorem gU(ats:Array TypeId)(ty:TypeId)(a b c:Value):Builtin.min_ ats ty #[a,b,c]=(Builtin.min2 a b>>=fun s=>Builtin.min2 s c>>=fun s=>pure s):=by simp only[Builtin.min_,List.foldlM_cons,List.foldlM_nil]
theorem gP(ats:Array TypeId)(ty:TypeId)(a b c d:Value):Builtin.max_ ats ty #[a,b,c,d]=(Builtin.max2 a b>>=fun s=>Builtin.max2 s c>>=fun s=>Builtin.max2 s d>>=fun s=>pure s):=by simp only[Builtin.max_,List.foldlM_cons,List.foldlM_nil]
theorem gT(ats:Array TypeId)(ty:TypeId)(a b c d:Value):Builtin.min_ ats ty #[a,b,c,d]=(Builtin.min2 a b>>=fun s=>Builtin.min2 s c>>=fun s=>Builtin.min2 s d>>=fun s=>pure s):=by simp only[Builtin.min_,List.foldlM_cons,List.foldlM_nil]
end Go.Proofs.YtbpjidekjogfeaaW.dN
namespace Go.Proofs.YtbpjidekjogfeaaW.cv
open Go.RowKit
section
variable {P:Program} {ops:Array Oper} {rest:List Oper} {o:Oper} {a:Act} {Q:Exit→Act→World→Prop} {W:World}
theorem b8{f:FuncId}{as:Array Operand}{ts:Array TypeId}(_ho:o.op= .call {callee:= .value (.func f),args:=as,argTypes:=ts})(h:wpList P ops Q (o::rest) a W):wpList P ops Q (o::rest) a W:=h
theorem m5{b:Builtin}{xs:Array Operand}{ts:Array TypeId}(_ho:o.op= .call {callee:= .builtin b,args:=xs,argTypes:=ts})(h:wpList P ops Q (o::rest) a W):wpList P ops Q (o::rest) a W:=h
end
theorem rK(w:World)(n:Nat):w.drewN n=w.drewN n:=rfl
namespace Kd
section
variable {α:Type} {d:Kd α} {e base g n cap:Nat} {ok fD cr:Nat→Prop} {W:World} {xs:List α} {i:Int} {c:List Value}
theorem Xz(h:H d e W base ok (.slice (some ⟨g,0,none⟩) n cap) xs i fD c)(h0:0≤i)(h1:i<n):(∀j u,c[j]? =some u→W.cell? ⟨g,i.toNat*d.sz+j,none⟩=some u)∧ ∀j,W.frozen? ⟨g,i.toNat*d.sz+j,none⟩=false:=by
 obtain⟨rows,_,H6,_,_,lf,_⟩:=XC h h0 h1;obtain⟨_,_,_,_,hfr⟩:=iL H6 [] i h0 h1;exact⟨lf,hfr⟩
end
section
variable {α:Type} {d:Kd α} {e base b b' g N:Nat} {ok ok1:Nat→Prop} {W W2 w1:World} {u v:Value} {xs ys:List α} {S:Nat→Prop}
theorem Yc(hE:d.E= [])(h:d.R e W base ok1 v xs)(hok: ∀k,v.ownBlock=some k→ok k):d.R e W base ok v xs:=bE (o4 hE h) (fun k hk=>hok k hk.symm)
end
end Kd
end Go.Proofs.YtbpjidekjogfeaaW.cv
namespace Go.Proofs.YtbpjidekjogfeaaW.cv
open Go.RowKit
namespace Kd
def V{α:Type}(d:Kd α)(_e:Nat)(W:World)(_base:Nat)(ok:Nat→Prop)(v:Value)(xs:List α):Prop:= ∃A c,v= .slice A xs.length c∧xs.length≤c∧F d W ok A xs.length xs
section
variable {α β:Type} {d:Kd α} {e base base' n m c g N' lo hi:Nat} {ok ok' S:Nat→Prop} {w W w1:World} {A:Option Addr} {ad:Addr} {u v v1:Value} {xs:List α}
theorem uS(h:V d e W base ok v xs)(hF: ∀A,F d W ok A xs.length xs→F d w1 ok' A xs.length xs):V d e w1 base' ok' v xs:=by
 obtain⟨A,c,hv,hl,hf⟩:=h;exact⟨A,c,hv,hl,hF A hf⟩
theorem CT(hl:xs.length≤c)(hf:F d W ok A xs.length xs):V d e W base ok (.slice A xs.length c) xs:=⟨A,c,rfl,hl,hf⟩
theorem CS(h:V d e W base ok (.slice A n c) xs):n=xs.length∧n≤c∧F d W ok A xs.length xs:=by
 obtain⟨A',c',hv,hl,hf⟩:=h;(injection hv with ha hn hc);subst ha;subst hc;exact⟨hn,by rw[hn];exact hl,hf⟩
theorem vU(h:V d e W base ok (.slice A n c) xs):n=xs.length∧n≤c∧d.C W A xs.length xs:=⟨(CS h).1,(CS h).2.1,afV (CS h).2.2⟩
theorem PK(h:V d e W base ok (.slice A n c) xs):F d W ok A n xs:=by
 obtain⟨hn,_,hf⟩:=CS h;rw[hn];exact hf
theorem E5(d:Kd α)(e:Nat)(W:World)(base:Nat)(ok:Nat→Prop):V d e W base ok (.slice none 0 0) []:=⟨none,0,rfl,Nat.le_refl _,afU d W ok⟩
theorem X6(h:d.R e W base ok v xs):V d e W base' ok v xs:=by
 obtain⟨A,c,rfl⟩:=dg h;exact⟨A,c,rfl,(dH h).2.1,PC h⟩
theorem gf(h:V d e W base ok v xs)(hok: ∀k,ok k→ok' k):V d e W base ok' v xs:=uS h (fun _ hf=>Ka hf hok)
theorem uP(h:V d e W base ok v xs)(hb:Below W.heap.size W w1):V d e w1 base ok v xs:=uS h (fun _ hf=>Cw hf hb)
theorem gu(h:V d e W base ok v xs)(o:Obj):V d e (W.alloc o) base ok v xs:=uS h (fun _ hf=>afM hf o)
theorem fM(h:V d e W base ok v xs):V d e W.drew base ok v xs:=uS h (fun _ hf=>afP hf)
theorem gv(h:V d e W base ok v xs)(m:Nat):V d e (W.drewN m) base ok v xs:=uS h (fun _ hf=>afQ hf m)
theorem fW(h:V d e W base ok v xs){p:Addr}(hok: ∀k,ok k→k≠p.block)(u:Value):V d e (W.setCell p u) base ok v xs:=uS h (fun _ hf=>afT hf hok u)
theorem uQ(h:V d e W base ok v xs)(hbase: ∀k,u.ownBlock=some k→W.heap.size≤k)(hb:Below W.heap.size W w1):V d e w1 base (fun k=>ok k∧some k≠u.ownBlock) v xs:=uS h (fun _ hf=>afR hf hbase hb)
theorem uR(h:V d e W base ok v xs)(a:Nat)(ha:W.heap.size≤a):V d e W base (fun k=>ok k∧k≠a) v xs:=uS h (fun _ hf=>afS hf a ha)
theorem KJ(h:V d e W base ok v xs)(hb:Below W.heap.size W w1):V d e w1 base (fun k=>ok k∧k<W.heap.size) v xs:=uS h (fun _ hf=>afW hf hb)
theorem ya(h:V d e w1 base (fun k=>ok k∧k<N') v xs)(hbase: ∀k,u.ownBlock=some k→N'≤k):V d e w1 base (fun k=>(ok k∧some k≠u.ownBlock)∧k<N') v xs:=uS h (fun _ hf=>afY hf hbase)
theorem afX(h:F d W ok A xs.length xs)(hm:m≤xs.length):F d W ok A (xs.take m).length (xs.take m):=WE h (fun _ hC=>afK hC hm)
theorem afO(h:F d W ok A xs.length xs)(hm:m≤xs.length)(hc:xs.length≤c):F d W ok (if c=m then A else A.map (·.add (m*d.sz))) (xs.drop m).length (xs.drop m):=WE h (fun _ hC=>afI hC hm hc)
theorem Od{l:List α}(hl:l.length≤c)(hf:F d W ok A l.length l):FK (Kd.slice e d) W ok l [.slice A l.length c]:=fun W' hW=>⟨A,c,rfl,hl,hf W' hW⟩
theorem xW{M:Nat→Prop}(h:d.R e w1 W.heap.size ok v xs)(hle:w.heap.size≤W.heap.size)(hM: ∀k,w.heap.size≤k→M k):d.R e w1 W.heap.size (fun k=>M k∧ok k) v xs:=bE (pW h) (fun k hk=>⟨hM k (Nat.le_trans hle hk.2.1),hk.1⟩)
end
end Kd
end Go.Proofs.YtbpjidekjogfeaaW.cv
