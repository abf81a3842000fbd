/- Used by the law FnExactBankPut. -/
import Derived.Test.YtbpjidekjogfeaaZFnExactBankPutx2
import Derived.Test.YtbpjidekjogfeaaZFnExactBankPutx0
namespace Go.Proofs.YtbpjidekjogfeaaW.dr
open Go.Proofs.YtbpjidekjogfeaaW.cv (af)
def DP(md:Region.Mode)(o:Oper):List Nat:=(o.after.toList.filter (fun e=>Region.binds md e)).map (fun e=>e.on)
def Qs(md:Region.Mode)(ops:Array Oper)(i:Nat)(oi:Oper):List Nat:=(List.range ops.size).filter fun j=> !(j==i)&& match ops[j]? with
 |some oj=> !(oj.after.any (fun e=>Region.binds md e && e.on==i)||oi.apart ops oj)
 |none=>false
def dP(md:Region.Mode)(ops:Array Oper):Bool×List (List Nat×List Nat):=(Region.noSelect ops,(List.range ops.size).map fun i=>match ops[i]? with
 |some o=>(DP md o,Qs md ops i o)
 |none=>([],[]))
def yQ(T:List (List Nat×List Nat))(l:List Bool)(i:Nat):Bool:= !l.getD i true && match T[i]? with
 |some r=>r.1.all (fun j=>l.getD j false)
 |none=>false
def BR(T:List (List Nat×List Nat))(l:List Bool):List Nat:=(List.range T.length).filter (yQ T l)
def FU(T:List (List Nat×List Nat))(l:List Bool)(i:Nat):Bool:=match T[i]? with
 |some r=>r.2.all (fun j=>l.getD j true)
 |none=>false
def K8(T:List (List Nat×List Nat))(l:List Bool):Bool:=(List.range T.length).all fun j=> !l.getD j false||match T[j]? with
 |some r=>r.1.all (fun k=>l.getD k false)
 |none=>true
def DS(T:List (List Nat×List Nat))(i:Nat):Nat→Nat→Bool
 |0,_=>false
 |fuel+1,d=>match T[d]? with
  |some r=>r.1.any fun j=>j==i||DS T i fuel j
  |none=>false
def MM(T:List (List Nat×List Nat))(l:List Bool)(ds:List Nat)(i:Nat):Bool:=ds.all fun d=>l.getD d true||DS T i T.length d
section
variable {md:Region.Mode} {ops:Array Oper} {T:Bool×List (List Nat×List Nat)} {l l' li lj lk:Array Bool} {ds:List Nat} {i j k:Nat}
theorem gd(l:Array Bool)(j:Nat)(b:Bool):l.getD j b=l.toList.getD j b:=by simp[Array.getD_eq_getD_getElem?,List.getD_eq_getElem?_getD]
theorem adV(o:Oper)(p:Nat→Bool):o.after.all (fun e=> !Region.binds md e||p e.on)=(DP md o).all p:=by
 unfold DP;rw[←Array.all_toList];induction o.after.toList with
 |nil=>rfl
 |cons e r ih=>
  rw[List.all_cons,ih,List.filter_cons];cases h:Region.binds md e<;>simp
theorem aqM(o:Oper)(p:Nat→Bool):o.after.any (fun e=>Region.binds md e && p e.on)=(DP md o).any p:=by
 unfold DP;rw[←Array.any_toList];induction o.after.toList with
 |nil=>rfl
 |cons e r ih=>
  rw[List.any_cons,ih,List.filter_cons];cases h:Region.binds md e<;>simp
theorem Nc:(dP md ops).2.length=ops.size:=by simp[dP]
theorem Nf{o:Oper}(h:ops[i]? =some o):(dP md ops).2[i]? =some (DP md o,Qs md ops i o):=by
 have hi:=(Array.getElem?_eq_some_iff.1 h).1;unfold dP;rw[List.getElem?_map,List.getElem?_range hi,Option.map_some,h]
theorem Nd(h:ops[i]? =none):(dP md ops).2[i]? =none:=by
 have hi:ops.size≤i:=Array.getElem?_eq_none_iff.1 h;exact List.getElem?_eq_none (by rw[Nc];exact hi)
theorem arq:yQ (dP md ops).2 l.toList i=(!l.getD i true &&((ops[i]?).map (·.after.all fun e=> !Region.binds md e||l.getD e.on false)).getD false):=by
 unfold yQ;rw[gd];cases h:ops[i]? with
 |none=>rw[Nd h];rfl
 |some o=>
  rw[Nf h];simp only[Option.map_some,Option.getD_some];rw[←adV];simp only[gd]
theorem Nb:Region.ready md ops l=BR (dP md ops).2 l.toList:=by
 unfold Region.ready BR;rw[Nc];refine List.filter_congr (fun i _=>?_);rw[arq]
theorem ZH:Region.free md ops l i=FU (dP md ops).2 l.toList i:=by
 unfold Region.free FU;cases h:ops[i]? with
 |none=>rw[Nd h]
 |some oi=>
  rw[Nf h];simp only[Qs];rw[List.all_filter]
  congr 1
  funext j;rw[gd];cases hj:ops[j]? with
  |none=>cases(j==i)<;>cases(l.toList.getD j true)<;>simp
  |some oj=>
   cases(j==i)<;>cases(l.toList.getD j true)<;>cases(oj.after.any (fun e=>Region.binds md e && e.on==i)||oi.apart ops oj)<;>simp_all
theorem ajU:Region.FD md ops l=K8 (dP md ops).2 l.toList:=by
 unfold Region.FD K8;rw[Nc]
 congr 1
 funext j;rw[gd];cases h:ops[j]? with
 |none=>rw[Nd h]
 |some o=>
  rw[Nf h];simp only;rw[←adV];simp only[gd]
theorem aeh: ∀(fuel d:Nat),Region.qT md ops i fuel d=DS (dP md ops).2 i fuel d
 |0,_=>rfl
 |fuel+1,d=>by
  unfold Region.qT DS;cases h:ops[d]? with
  |none=>rw[Nd h]
  |some o=>
   rw[Nf h];simp only;rw[←aqM]
   congr 1
   funext e;rw[aeh fuel]
theorem aqz:Region.ML md ops l ds i=MM (dP md ops).2 l.toList ds i:=by
 unfold Region.ML MM;rw[Nc]
 congr 1
 funext d;rw[gd,aeh]
theorem aej(h:yQ T.2 l.toList i=true)(hT:dP md ops=T):(Region.ready md ops l).contains i=true:=by
 subst hT;rw[Nb];unfold BR;rw[List.contains_iff_mem,List.mem_filter,List.mem_range];refine⟨?_,h⟩;unfold yQ at h;rw[Bool.and_eq_true]at h;cases hq:(dP md ops).2[i]? with
 |none=>rw[hq]at h;simp at h
 |some r=>exact(List.getElem?_eq_some_iff.1 hq).1
theorem JF(h:(l.toList.set i true==l'.toList)=true):(l.setIfInBounds i true==l')=true:=by
 rw[beq_iff_eq]at h⊢;apply Array.ext';rw[Array.toList_setIfInBounds];exact h
def KO(T:Bool×List (List Nat×List Nat))(l l':List Bool)(i:Nat):Bool:=T.1 && FU T.2 l i && yQ T.2 l i &&(l.set i true==l')
theorem Yp(hT:dP md ops=T)(h:KO T l.toList l'.toList i=true):KN md ops l l' i=true:=by
 simp only[KO,Bool.and_eq_true]at h;obtain⟨⟨⟨h1,h2⟩,h3⟩,h4⟩:=h;have h5:=aej h3 hT;have h6:=JF h4;subst hT;simp only[KN,Bool.and_eq_true];exact⟨⟨⟨h1,by rw[ZH];exact h2⟩,h5⟩,h6⟩
def VJ(T:Bool×List (List Nat×List Nat))(ds:List Nat)(l l':List Bool)(i:Nat):Bool:=T.1 && FU T.2 l i && yQ T.2 l i && K8 T.2 l && MM T.2 l ds i &&(l.set i true==l')
theorem arS(hT:dP md ops=T)(h:VJ T ds l.toList l'.toList i=true):JU md ops ds l l' i=true:=by
 simp only[VJ,Bool.and_eq_true]at h;obtain⟨⟨⟨⟨⟨h1,h2⟩,h3⟩,h4⟩,h5⟩,h6⟩:=h;have h7:=aej h3 hT;have h8:=JF h6;subst hT;simp only[JU,Bool.and_eq_true];exact⟨⟨⟨⟨⟨h1,by rw[ZH];exact h2⟩,h7⟩,by rw[ajU];exact h4⟩,by rw[aqz];exact h5⟩,h8⟩
theorem xm(hT:dP md ops=T)(h:(BR T.2 l.toList== [i]&& l.toList.set i true==l'.toList)=true):DT md ops l l' i=true:=by
 simp only[Bool.and_eq_true]at h;obtain⟨h1,h2⟩:=h;subst hT;simp only[DT,Bool.and_eq_true];exact⟨by rw[Nb];exact h1,JF h2⟩
theorem Nv(hT:dP md ops=T)(h:(BR T.2 l.toList== [i,j]&& l.toList.set i true==li.toList && l.toList.set j true==lj.toList)=true):(Region.ready md ops l== [i,j]&& l.setIfInBounds i true==li && l.setIfInBounds j true==lj)=true:=by
 simp only[Bool.and_eq_true]at h⊢;obtain⟨⟨h1,h2⟩,h3⟩:=h;subst hT;exact⟨⟨by rw[Nb];exact h1,JF h2⟩,JF h3⟩
theorem m3(hT:dP md ops=T)(h:(BR T.2 l.toList== [])=true):(Region.ready md ops l== [])=true:=by
 subst hT;rw[Nb];exact h
def B0(B:List Nat)(d:Nat):List Nat→Nat
 | []=>0
 |n::r=>(2 ^ n|||(if n<d then B.getD n 0 else 0))|||B0 B d r
def hU(T:List (List Nat×List Nat))(B:List Nat):Bool:=(List.range T.length).all fun d=>match T[d]? with
 |some r=>(B.getD d 0|||B0 B d r.1)==B0 B d r.1
 |none=>false
theorem aez{B:List Nat}{d i:Nat}: ∀{ns:List Nat},(B0 B d ns).testBit i=true→ ∃n ∈ ns,n=i∨(n<d∧(B.getD n 0).testBit i=true)
 | [],h=>by simp[B0]at h
 |n::r,h=>by
  unfold B0 at h;rw[Nat.testBit_or,Nat.testBit_or,Bool.or_eq_true,Bool.or_eq_true]at h;rcases h with(h|h)|h
  ·rw[Nat.testBit_two_pow]at h;exact⟨n,List.mem_cons_self,.inl (by simpa using h)⟩
  ·by_cases hn:n<d
   ·rw[if_pos hn]at h;exact⟨n,List.mem_cons_self,.inr ⟨hn,h⟩⟩
   ·rw[if_neg hn]at h;simp at h
  ·obtain⟨m,hm,h2⟩:=aez h;exact⟨m,List.mem_cons_of_mem _ hm,h2⟩
theorem aeg{T:List (List Nat×List Nat)}{B:List Nat}(hB:hU T B=true): ∀(fuel d:Nat),d<fuel→d<T.length→(B.getD d 0).testBit i=true→DS T i fuel d=true
 |0,d,h,_,_=>by omega
 |fuel+1,d,h,hd,hb=>by
  have h1:=List.all_eq_true.1 hB d (List.mem_range.2 hd);cases hr:T[d]? with
  |none=>rw[hr]at h1;simp at h1
  |some r=>
   rw[hr]at h1;simp only[beq_iff_eq]at h1;(have h2:(B0 B d r.1).testBit i=true:=by rw[←h1,Nat.testBit_or,hb,Bool.true_or]);obtain⟨n,hn,h3⟩:=aez h2;unfold DS;rw[hr];simp only;rw[List.any_eq_true];refine⟨n,hn,?_⟩;rcases h3 with rfl|⟨h4,h5⟩
   ·simp
   ·rw[aeg hB fuel n (by omega) (by omega) h5,Bool.or_true]
def adF(T:List (List Nat×List Nat))(B:List Nat)(l:List Bool)(ds:List Nat)(i:Nat):Bool:=ds.all fun d=>l.getD d true||(decide (d<T.length)&&(B.getD d 0).testBit i)
def n8(T:Bool×List (List Nat×List Nat))(B:List Nat)(ds:List Nat)(l l':List Bool)(i:Nat):Bool:=T.1 && FU T.2 l i && yQ T.2 l i && K8 T.2 l && adF T.2 B l ds i &&(l.set i true==l')
theorem pI{B:List Nat}(hT:dP md ops=T)(hB:hU T.2 B=true)(h:n8 T B ds l.toList l'.toList i=true):JU md ops ds l l' i=true:=by
 refine arS hT ?_;simp only[n8,VJ,Bool.and_eq_true]at h⊢;obtain⟨⟨⟨⟨⟨h1,h2⟩,h3⟩,h4⟩,h5⟩,h6⟩:=h;refine⟨⟨⟨⟨⟨h1,h2⟩,h3⟩,h4⟩,?_⟩,h6⟩;unfold adF at h5;unfold MM;rw[List.all_eq_true]at h5⊢;intro d hd;have h7:=h5 d hd;rw[Bool.or_eq_true,Bool.and_eq_true,decide_eq_true_eq]at h7;rcases h7 with h7|⟨h8,h9⟩
 ·rw[h7,Bool.true_or]
 ·rw[aeg hB _ d h8 h8 h9,Bool.or_true]
theorem nG{P:Program}{Q:Exit→Act→World→Prop}{S:World→Prop}{n:Nat}{a:Act}{w:World}{B:List Nat}(hT:dP md ops=T)(hB:hU T.2 B=true)(h:af (dP md ops=T)→af (hU T.2 B=true)→cL P md ops Q S ds n l a w):cL P md ops Q S ds n l a w:=h ⟨hT⟩ ⟨hB⟩
end
def u7:Code→Nat→Option (Array Oper)
 | .region id ops _,k=>if id==k then some ops else none
 | .seq a b,k=>match u7 a k with
  |some o=>some o
  |none=>u7 b k
 | .cond _ a b,k=>match u7 a k with
  |some o=>some o
  |none=>u7 b k
 | .block _ c,k=>u7 c k
 | .loop c,k=>u7 c k
 | .scope c,k=>u7 c k
 | .rangeFunc _ _ a b,k=>match u7 a k with
  |some o=>some o
  |none=>u7 b k
 |_,_=>none
def opsOf(f:Func)(k:Nat):Array Oper:=((f.body.bind fun c=>u7 c k)).getD #[]
end Go.Proofs.YtbpjidekjogfeaaW.dr
