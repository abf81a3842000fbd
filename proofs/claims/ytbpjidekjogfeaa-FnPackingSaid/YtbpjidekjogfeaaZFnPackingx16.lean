/- Used by the law FnPacking. -/
import Derived.Test.YtbpjidekjogfeaaZFnPackingx15
namespace Go.Proofs.YtbpjidekjogfeaaW.eE
open Go.RowKit Go.Proofs.YtbpjidekjogfeaaW.cK
namespace Kd
open Go.Proofs.YtbpjidekjogfeaaW.cK.Kd
end Kd
theorem gP(k k':IntKind)(x y:Int):Builtin.max2 (.int k x) (.int k' y)=pure (.int k (if x<y then y else x)):=by simp only[Builtin.max2,gt_iff_lt]
theorem gT(k k':IntKind)(x y:Int):Builtin.min2 (.int k x) (.int k' y)=pure (.int k (if y<x then y else x)):=by simp only[Builtin.min2]
theorem gS(ats:Array TypeId)(ty:TypeId)(a b:Value):Builtin.max_ ats ty #[a,b]=(Builtin.max2 a b>>=fun s=>pure s):=by simp only[Builtin.max_,List.foldlM_cons,List.foldlM_nil]
theorem gW(ats:Array TypeId)(ty:TypeId)(a b:Value):Builtin.min_ ats ty #[a,b]=(Builtin.min2 a b>>=fun s=>pure s):=by simp only[Builtin.min_,List.foldlM_cons,List.foldlM_nil]
theorem gR(ats:Array TypeId)(ty:TypeId)(a b c:Value):Builtin.max_ ats ty #[a,b,c]=(Builtin.max2 a b>>=fun s=>Builtin.max2 s c>>=fun s=>pure s):=by simp only[Builtin.max_,List.foldlM_cons,List.foldlM_nil]
theorem gV(ats:Array TypeId)(ty:TypeId)(a b c:Value):Builtin.min_ ats ty #[a,b,c]=(Builtin.min2 a b>>=fun s=>Builtin.min2 s c>>=fun s=>pure s):=by simp only[Builtin.min_,List.foldlM_cons,List.foldlM_nil]
theorem gQ(ats:Array TypeId)(ty:TypeId)(a b c d:Value):Builtin.max_ ats ty #[a,b,c,d]=(Builtin.max2 a b>>=fun s=>Builtin.max2 s c>>=fun s=>Builtin.max2 s d>>=fun s=>pure s):=by simp only[Builtin.max_,List.foldlM_cons,List.foldlM_nil]
theorem gU(ats:Array TypeId)(ty:TypeId)(a b c d:Value):Builtin.min_ ats ty #[a,b,c,d]=(Builtin.min2 a b>>=fun s=>Builtin.min2 s c>>=fun s=>Builtin.min2 s d>>=fun s=>pure s):=by simp only[Builtin.min_,List.foldlM_cons,List.foldlM_nil]
end Go.Proofs.YtbpjidekjogfeaaW.eE
namespace Go.Proofs.YtbpjidekjogfeaaW.cK
open Go.RowKit
section
variable {P:Program} {ops:Array Oper} {rest:List Oper} {o:Oper} {a:Act} {Q:Exit→Act→World→Prop} {W:World}
theorem b5{f:FuncId}{as:Array Operand}{ts:Array TypeId}(_ho:o.op= .call {callee:= .value (.func f),args:=as,argTypes:=ts})(h:wpList P ops Q (o::rest) a W):wpList P ops Q (o::rest) a W:=h
theorem iF{b:Builtin}{xs:Array Operand}{ts:Array TypeId}(_ho:o.op= .call {callee:= .builtin b,args:=xs,argTypes:=ts})(h:wpList P ops Q (o::rest) a W):wpList P ops Q (o::rest) a W:=h
end
theorem vK(w:World)(n:Nat):w.drewN n=w.drewN n:=rfl
namespace Kd
section
variable {α:Type} {d:Kd α} {e base b b' g N:Nat} {ok ok1:Nat→Prop} {W W2 w1:World} {u v:Value} {xs ys:List α} {S:Nat→Prop}
theorem Nv(hE:d.E= [])(h:d.R e W base ok1 v xs)(hok: ∀k,v.ownBlock=some k→ok k):d.R e W base ok v xs:=aK (rV hE h) (fun k hk=>hok k hk.symm)
theorem Kb(h:d.R e W base ok v xs)(hk:Kept W W2 S)(hne: ∀k,ok k→ ¬S k):d.R e W2 base (fun k=>ok k∧(¬S k∧k<W.heap.size)) v xs:=
 ajn (aK (uv h) (fun k hk=>⟨hk.1,hne k hk.1,hk.2.2.1⟩)) hk (fun _ hk=>hk.2.1)
end
end Kd
end Go.Proofs.YtbpjidekjogfeaaW.cK
namespace Go.Proofs.YtbpjidekjogfeaaW.cK
open Go.RowKit
namespace Kd
def V{α:Type}(d:Kd α)(_e:Nat)(W:World)(_base:Nat)(ok:Nat→Prop)(v:Value)(xs:List α):Prop:= ∃A c,v= .slice A xs.length c∧xs.length≤c∧F d W ok A xs.length xs
section
variable {α β:Type} {d:Kd α} {e base base' n m c g N' lo hi:Nat} {ok ok' S:Nat→Prop} {w W w1:World} {A:Option Addr} {ad:Addr} {u v v1:Value} {xs:List α}
theorem yd(h:V d e W base ok v xs)(hF: ∀A,F d W ok A xs.length xs→F d w1 ok' A xs.length xs):V d e w1 base' ok' v xs:=by
 obtain⟨A,c,hv,hl,hf⟩:=h;exact⟨A,c,hv,hl,hF A hf⟩
theorem Av(hl:xs.length≤c)(hf:F d W ok A xs.length xs):V d e W base ok (.slice A xs.length c) xs:=⟨A,c,rfl,hl,hf⟩
theorem DN(h:V d e W base ok (.slice A n c) xs):n=xs.length∧n≤c∧F d W ok A xs.length xs:=by
 obtain⟨A',c',hv,hl,hf⟩:=h;(injection hv with ha hn hc);subst ha;subst hc;exact⟨hn,by rw[hn];exact hl,hf⟩
theorem vz(h:V d e W base ok (.slice A n c) xs):n=xs.length∧n≤c∧d.C W A xs.length xs:=⟨(DN h).1,(DN h).2.1,atq (DN h).2.2⟩
theorem Nx(h:V d e W base ok (.slice A n c) xs):F d W ok A n xs:=by
 obtain⟨hn,_,hf⟩:=DN h;rw[hn];exact hf
theorem mO(d:Kd α)(e:Nat)(W:World)(base:Nat)(ok:Nat→Prop):V d e W base ok (.slice none 0 0) []:=⟨none,0,rfl,Nat.le_refl _,atp d W ok⟩
theorem TB(h:d.R e W base ok v xs):V d e W base' ok v xs:=by
 obtain⟨A,c,rfl⟩:=bS h;exact⟨A,c,rfl,(bC h).2.1,FA h⟩
theorem iL(h:V d e W base ok v xs)(hok: ∀k,ok k→ok' k):V d e W base ok' v xs:=yd h (fun _ hf=>M3 hf hok)
theorem wO(h:V d e W base ok v xs)(hb:Below W.heap.size W w1):V d e w1 base ok v xs:=yd h (fun _ hf=>JD hf hb)
theorem gL(h:V d e W base ok v xs)(o:Obj):V d e (W.alloc o) base ok v xs:=yd h (fun _ hf=>atj hf o)
theorem gB(h:V d e W base ok v xs):V d e W.drew base ok v xs:=yd h (fun _ hf=>atk hf)
theorem gM(h:V d e W base ok v xs)(m:Nat):V d e (W.drewN m) base ok v xs:=yd h (fun _ hf=>atl hf m)
theorem j8(h:V d e W base ok v xs){p:Addr}(hok: ∀k,ok k→k≠p.block)(u:Value):V d e (W.setCell p u) base ok v xs:=yd h (fun _ hf=>ato hf hok u)
theorem awy(h:V d e W base (fun k=>ok k∧some k≠u.ownBlock) v xs)(hg:W.grownBy w1 u.ownBlock)(hat:v1.ownBlock=u.ownBlock∨ ∃b,v1.ownBlock=some b∧W.heap.size≤b):V d e w1 base (fun k=>ok k∧some k≠v1.ownBlock) v xs:=yd h (fun _ hf=>ati hf hg hat)
theorem Kj(h:V d e W base (fun k=>ok k∧some k≠v.ownBlock) u xs)(hg:W.grownBy w1 v.ownBlock)(hat:v1.ownBlock=v.ownBlock∨ ∃b,v1.ownBlock=some b∧W.heap.size≤b):V d e w1 base (fun k=>ok k∧some k≠v1.ownBlock) u xs:=awy h hg hat
theorem aiF(h:N d e W base (fun k=>ok k∧some k≠v.ownBlock) u xs)(hg:W.grownBy w1 v.ownBlock)(hat:v1.ownBlock=v.ownBlock∨ ∃b,v1.ownBlock=some b∧W.heap.size≤b):N d e w1 base (fun k=>ok k∧some k≠v1.ownBlock) u xs:=avn h hg hat
theorem wP(h:V d e W base ok v xs)(hbase: ∀k,u.ownBlock=some k→W.heap.size≤k)(hb:Below W.heap.size W w1):V d e w1 base (fun k=>ok k∧some k≠u.ownBlock) v xs:=yd h (fun _ hf=>atm hf hbase hb)
theorem Au(h:V d e W base ok v xs)(a:Nat)(ha:W.heap.size≤a):V d e W base (fun k=>ok k∧k≠a) v xs:=yd h (fun _ hf=>atn hf a ha)
theorem TF(h:V d e W base ok v xs)(hb:Below W.heap.size W w1):V d e w1 base (fun k=>ok k∧k<W.heap.size) v xs:=yd h (fun _ hf=>atr hf hb)
theorem DO(h:V d e w1 base (fun k=>ok k∧k<N') v xs)(hbase: ∀k,u.ownBlock=some k→N'≤k):V d e w1 base (fun k=>(ok k∧some k≠u.ownBlock)∧k<N') v xs:=yd h (fun _ hf=>att hf hbase)
theorem avt(h:N d e W base ok v xs)(hk:Kept W w1 S)(hne: ∀k,ok k→ ¬S k):N d e w1 base (fun k=>ok k∧(¬S k∧k<W.heap.size)) v xs:=
 avs (fD (J4 h) (fun k hk=>⟨hk.1,hne k hk.1,hk.2⟩)) hk (fun _ hk=>hk.2.1)
theorem ahl(h:F d W ok A xs.length xs)(hm:m≤xs.length):F d W ok A (xs.take m).length (xs.take m):=ahj h (fun _ hC=>atf hC hm)
theorem ahi(h:F d W ok A xs.length xs)(hm:m≤xs.length)(hc:xs.length≤c):F d W ok (if c=m then A else A.map (·.add (m*d.sz))) (xs.drop m).length (xs.drop m):=ahj h (fun _ hC=>Yz hC hm hc)
theorem YB{l:List α}(hl:l.length≤c)(hf:F d W ok A l.length l):FK (Kd.slice e d) W ok l [.slice A l.length c]:=fun W' hW=>⟨A,c,rfl,hl,hf W' hW⟩
theorem Uu{k:IntKind}{l:List Int}(h:(Kd.int k).C w (some ad) n l)(i:Int)(h0:0≤i)(h1:i<n):w.cell? (ad.add i.toNat)=some (.int k (rd l i)):=by
 obtain⟨ad',he,hc⟩:=dF h i h0 h1;(injection he with he);subst he;exact hc
theorem vt{M:Nat→Prop}(h:d.R e w1 W.heap.size ok v xs)(hle:w.heap.size≤W.heap.size)(hM: ∀k,w.heap.size≤k→M k):d.R e w1 W.heap.size (fun k=>M k∧ok k) v xs:=aK (uv h) (fun k hk=>⟨hM k (Nat.le_trans hle hk.2.1),hk.1⟩)
end
end Kd
end Go.Proofs.YtbpjidekjogfeaaW.cK
