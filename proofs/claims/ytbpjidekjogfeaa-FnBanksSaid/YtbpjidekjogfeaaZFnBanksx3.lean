/- Used by the law FnBanks. -/
import Derived.Test.YtbpjidekjogfeaaZFnBanksx2
import Derived.Test.YtbpjidekjogfeaaZFnBanksx0
namespace Go.Proofs.YtbpjidekjogfeaaW.dV
open Go.Proofs.YtbpjidekjogfeaaW.cN (af)
def LB(md:Region.Mode)(o:Oper):List Nat:=(o.after.toList.filter (fun e=>Region.binds md e)).map (fun e=>e.on)
def aaW(md:Region.Mode)(ops:Array Oper)(i:Nat)(oi:Oper):List Nat:=(List.range ops.size).filter fun j=> !(j==i)&& match ops[j]? with
 |some oj=> !(oj.after.any (fun e=>Region.binds md e && e.on==i)||oi.apart ops oj)
 |none=>false
def fu(md:Region.Mode)(ops:Array Oper):Bool×List (List Nat×List Nat):=(Region.noSelect ops,(List.range ops.size).map fun i=>match ops[i]? with
 |some o=>(LB md o,aaW md ops i o)
 |none=>([],[]))
def Fx(T:List (List Nat×List Nat))(l:List Bool)(i:Nat):Bool:= !l.getD i true && match T[i]? with
 |some r=>r.1.all (fun j=>l.getD j false)
 |none=>false
def Jr(T:List (List Nat×List Nat))(l:List Bool):List Nat:=(List.range T.length).filter (Fx T l)
def Oc(T:List (List Nat×List Nat))(l:List Bool)(i:Nat):Bool:=match T[i]? with
 |some r=>r.2.all (fun j=>l.getD j true)
 |none=>false
def Un(T:List (List Nat×List Nat))(l:List Bool):Bool:=(List.range T.length).all fun j=> !l.getD j false||match T[j]? with
 |some r=>r.1.all (fun k=>l.getD k false)
 |none=>true
def LH(T:List (List Nat×List Nat))(i:Nat):Nat→Nat→Bool
 |0,_=>false
 |fuel+1,d=>match T[d]? with
  |some r=>r.1.any fun j=>j==i||LH T i fuel j
  |none=>false
def W4(T:List (List Nat×List Nat))(l:List Bool)(ds:List Nat)(i:Nat):Bool:=ds.all fun d=>l.getD d true||LH T i T.length d
section
variable {md:Region.Mode} {ops:Array Oper} {T:Bool×List (List Nat×List Nat)} {l l' li lj lk:Array Bool} {ds:List Nat} {i j k:Nat}
theorem gd(l:Array Bool)(j:Nat)(b:Bool):l.getD j b=l.toList.getD j b:=by simp[Array.getD_eq_getD_getElem?,List.getD_eq_getElem?_getD]
theorem aqh(o:Oper)(p:Nat→Bool):o.after.all (fun e=> !Region.binds md e||p e.on)=(LB md o).all p:=by
 unfold LB;rw[←Array.all_toList];induction o.after.toList with
 |nil=>rfl
 |cons e r ih=>
  rw[List.all_cons,ih,List.filter_cons];cases h:Region.binds md e<;>simp
theorem aEC(o:Oper)(p:Nat→Bool):o.after.any (fun e=>Region.binds md e && p e.on)=(LB md o).any p:=by
 unfold LB;rw[←Array.any_toList];induction o.after.toList with
 |nil=>rfl
 |cons e r ih=>
  rw[List.any_cons,ih,List.filter_cons];cases h:Region.binds md e<;>simp
theorem Xq:(fu md ops).2.length=ops.size:=by simp[fu]
theorem Xs{o:Oper}(h:ops[i]? =some o):(fu md ops).2[i]? =some (LB md o,aaW md ops i o):=by
 have hi:=(Array.getElem?_eq_some_iff.1 h).1;unfold fu;rw[List.getElem?_map,List.getElem?_range hi,Option.map_some,h]
theorem Xr(h:ops[i]? =none):(fu md ops).2[i]? =none:=by
 have hi:ops.size≤i:=Array.getElem?_eq_none_iff.1 h;exact List.getElem?_eq_none (by rw[Xq];exact hi)
theorem aFe:Fx (fu md ops).2 l.toList i=(!l.getD i true &&((ops[i]?).map (·.after.all fun e=> !Region.binds md e||l.getD e.on false)).getD false):=by
 unfold Fx;rw[gd];cases h:ops[i]? with
 |none=>rw[Xr h];rfl
 |some o=>
  rw[Xs h];simp only[Option.map_some,Option.getD_some];rw[←aqh];simp only[gd]
theorem Xo:Region.ready md ops l=Jr (fu md ops).2 l.toList:=by
 unfold Region.ready Jr;rw[Xq];refine List.filter_congr (fun i _=>?_);rw[aFe]
theorem ak9:Region.free md ops l i=Oc (fu md ops).2 l.toList i:=by
 unfold Region.free Oc;cases h:ops[i]? with
 |none=>rw[Xr h]
 |some oi=>
  rw[Xs h];simp only[aaW];rw[List.all_filter]
  congr 1
  funext j;rw[gd];cases hj:ops[j]? with
  |none=>cases(j==i)<;>cases(l.toList.getD j true)<;>simp
  |some oj=>
   cases(j==i)<;>cases(l.toList.getD j true)<;>cases(oj.after.any (fun e=>Region.binds md e && e.on==i)||oi.apart ops oj)<;>simp_all
theorem ax1:Region.NQ md ops l=Un (fu md ops).2 l.toList:=by
 unfold Region.NQ Un;rw[Xq]
 congr 1
 funext j;rw[gd];cases h:ops[j]? with
 |none=>rw[Xr h]
 |some o=>
  rw[Xs h];simp only;rw[←aqh];simp only[gd]
theorem aqG: ∀(fuel d:Nat),Region.xF md ops i fuel d=LH (fu md ops).2 i fuel d
 |0,_=>rfl
 |fuel+1,d=>by
  unfold Region.xF LH;cases h:ops[d]? with
  |none=>rw[Xr h]
  |some o=>
   rw[Xs h];simp only;rw[←aEC]
   congr 1
   funext e;rw[aqG fuel]
theorem aEu:Region.W3 md ops l ds i=W4 (fu md ops).2 l.toList ds i:=by
 unfold Region.W3 W4;rw[Xq]
 congr 1
 funext d;rw[gd,aqG]
theorem aqI(h:Fx T.2 l.toList i=true)(hT:fu md ops=T):(Region.ready md ops l).contains i=true:=by
 subst hT;rw[Xo];unfold Jr;rw[List.contains_iff_mem,List.mem_filter,List.mem_range];refine⟨?_,h⟩;unfold Fx at h;rw[Bool.and_eq_true]at h;cases hq:(fu md ops).2[i]? with
 |none=>rw[hq]at h;simp at h
 |some r=>exact(List.getElem?_eq_some_iff.1 hq).1
theorem R7(h:(l.toList.set i true==l'.toList)=true):(l.setIfInBounds i true==l')=true:=by
 rw[beq_iff_eq]at h⊢;apply Array.ext';rw[Array.toList_setIfInBounds];exact h
def TL(T:Bool×List (List Nat×List Nat))(l l':List Bool)(i:Nat):Bool:=T.1 && Oc T.2 l i && Fx T.2 l i &&(l.set i true==l')
theorem ajs(hT:fu md ops=T)(h:TL T l.toList l'.toList i=true):TK md ops l l' i=true:=by
 simp only[TL,Bool.and_eq_true]at h;obtain⟨⟨⟨h1,h2⟩,h3⟩,h4⟩:=h;have h5:=aqI h3 hT;have h6:=R7 h4;subst hT;simp only[TK,Bool.and_eq_true];exact⟨⟨⟨h1,by rw[ak9];exact h2⟩,h5⟩,h6⟩
def afZ(T:Bool×List (List Nat×List Nat))(ds:List Nat)(l l':List Bool)(i:Nat):Bool:=T.1 && Oc T.2 l i && Fx T.2 l i && Un T.2 l && W4 T.2 l ds i &&(l.set i true==l')
theorem aF8(hT:fu md ops=T)(h:afZ T ds l.toList l'.toList i=true):SD md ops ds l l' i=true:=by
 simp only[afZ,Bool.and_eq_true]at h;obtain⟨⟨⟨⟨⟨h1,h2⟩,h3⟩,h4⟩,h5⟩,h6⟩:=h;have h7:=aqI h3 hT;have h8:=R7 h6;subst hT;simp only[SD,Bool.and_eq_true];exact⟨⟨⟨⟨⟨h1,by rw[ak9];exact h2⟩,h7⟩,by rw[ax1];exact h4⟩,by rw[aEu];exact h5⟩,h8⟩
theorem uS(hT:fu md ops=T)(h:(Jr T.2 l.toList== [i]&& l.toList.set i true==l'.toList)=true):LI md ops l l' i=true:=by
 simp only[Bool.and_eq_true]at h;obtain⟨h1,h2⟩:=h;subst hT;simp only[LI,Bool.and_eq_true];exact⟨by rw[Xo];exact h1,R7 h2⟩
theorem XT(hT:fu md ops=T)(h:(Jr T.2 l.toList== [i,j]&& l.toList.set i true==li.toList && l.toList.set j true==lj.toList)=true):(Region.ready md ops l== [i,j]&& l.setIfInBounds i true==li && l.setIfInBounds j true==lj)=true:=by
 simp only[Bool.and_eq_true]at h⊢;obtain⟨⟨h1,h2⟩,h3⟩:=h;subst hT;exact⟨⟨by rw[Xo];exact h1,R7 h2⟩,R7 h3⟩
theorem oh(hT:fu md ops=T)(h:(Jr T.2 l.toList== [])=true):(Region.ready md ops l== [])=true:=by
 subst hT;rw[Xo];exact h
def JB(B:List Nat)(d:Nat):List Nat→Nat
 | []=>0
 |n::r=>(2 ^ n|||(if n<d then B.getD n 0 else 0))|||JB B d r
def jm(T:List (List Nat×List Nat))(B:List Nat):Bool:=(List.range T.length).all fun d=>match T[d]? with
 |some r=>(B.getD d 0|||JB B d r.1)==JB B d r.1
 |none=>false
theorem arz{B:List Nat}{d i:Nat}: ∀{ns:List Nat},(JB B d ns).testBit i=true→ ∃n ∈ ns,n=i∨(n<d∧(B.getD n 0).testBit i=true)
 | [],h=>by simp[JB]at h
 |n::r,h=>by
  unfold JB at h;rw[Nat.testBit_or,Nat.testBit_or,Bool.or_eq_true,Bool.or_eq_true]at h;rcases h with(h|h)|h
  ·rw[Nat.testBit_two_pow]at h;exact⟨n,List.mem_cons_self,.inl (by simpa using h)⟩
  ·by_cases hn:n<d
   ·rw[if_pos hn]at h;exact⟨n,List.mem_cons_self,.inr ⟨hn,h⟩⟩
   ·rw[if_neg hn]at h;simp at h
  ·obtain⟨m,hm,h2⟩:=arz h;exact⟨m,List.mem_cons_of_mem _ hm,h2⟩
theorem aqF{T:List (List Nat×List Nat)}{B:List Nat}(hB:jm T B=true): ∀(fuel d:Nat),d<fuel→d<T.length→(B.getD d 0).testBit i=true→LH T i fuel d=true
 |0,d,h,_,_=>by omega
 |fuel+1,d,h,hd,hb=>by
  have h1:=List.all_eq_true.1 hB d (List.mem_range.2 hd);cases hr:T[d]? with
  |none=>rw[hr]at h1;simp at h1
  |some r=>
   rw[hr]at h1;simp only[beq_iff_eq]at h1;(have h2:(JB B d r.1).testBit i=true:=by rw[←h1,Nat.testBit_or,hb,Bool.true_or]);obtain⟨n,hn,h3⟩:=arz h2;unfold LH;rw[hr];simp only;rw[List.any_eq_true];refine⟨n,hn,?_⟩;rcases h3 with rfl|⟨h4,h5⟩
   ·simp
   ·rw[aqF hB fuel n (by omega) (by omega) h5,Bool.or_true]
def ap9(T:List (List Nat×List Nat))(B:List Nat)(l:List Bool)(ds:List Nat)(i:Nat):Bool:=ds.all fun d=>l.getD d true||(decide (d<T.length)&&(B.getD d 0).testBit i)
def ta(T:Bool×List (List Nat×List Nat))(B:List Nat)(ds:List Nat)(l l':List Bool)(i:Nat):Bool:=T.1 && Oc T.2 l i && Fx T.2 l i && Un T.2 l && ap9 T.2 B l ds i &&(l.set i true==l')
theorem u0{B:List Nat}(hT:fu md ops=T)(hB:jm T.2 B=true)(h:ta T B ds l.toList l'.toList i=true):SD md ops ds l l' i=true:=by
 refine aF8 hT ?_;simp only[ta,afZ,Bool.and_eq_true]at h⊢;obtain⟨⟨⟨⟨⟨h1,h2⟩,h3⟩,h4⟩,h5⟩,h6⟩:=h;refine⟨⟨⟨⟨⟨h1,h2⟩,h3⟩,h4⟩,?_⟩,h6⟩;unfold ap9 at h5;unfold W4;rw[List.all_eq_true]at h5⊢;intro d hd;have h7:=h5 d hd;rw[Bool.or_eq_true,Bool.and_eq_true,decide_eq_true_eq]at h7;rcases h7 with h7|⟨h8,h9⟩
 ·rw[h7,Bool.true_or]
 ·rw[aqF hB _ d h8 h8 h9,Bool.or_true]
theorem ou{P:Program}{Q:Exit→Act→World→Prop}{S:World→Prop}{n:Nat}{a:Act}{w:World}{B:List Nat}(hT:fu md ops=T)(hB:jm T.2 B=true)(h:af (fu md ops=T)→af (jm T.2 B=true)→eu P md ops Q S ds n l a w):eu P md ops Q S ds n l a w:=h ⟨hT⟩ ⟨hB⟩
end
def BG:Code→Nat→Option (Array Oper)
 | .region id ops _,k=>if id==k then some ops else none
 | .seq a b,k=>match BG a k with
  |some o=>some o
  |none=>BG b k
 | .cond _ a b,k=>match BG a k with
  |some o=>some o
  |none=>BG b k
 | .block _ c,k=>BG c k
 | .loop c,k=>BG c k
 | .scope c,k=>BG c k
 | .rangeFunc _ _ a b,k=>match BG a k with
  |some o=>some o
  |none=>BG b k
 |_,_=>none
def opsOf(f:Func)(k:Nat):Array Oper:=((f.body.bind fun c=>BG c k)).getD #[]
end Go.Proofs.YtbpjidekjogfeaaW.dV
