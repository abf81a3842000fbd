/- Used by the law FnPacking. -/
import Derived.Test.YtbpjidekjogfeaaZFnPackingx2
import Derived.Test.YtbpjidekjogfeaaZFnPackingx0
namespace Go.Proofs.YtbpjidekjogfeaaW.dP
open Go.Proofs.YtbpjidekjogfeaaW.cK (af)
def Lz(md:Region.Mode)(o:Oper):List Nat:=(o.after.toList.filter (fun e=>Region.binds md e)).map (fun e=>e.on)
def aaS(md:Region.Mode)(ops:Array Oper)(i:Nat)(oi:Oper):List Nat:=(List.range ops.size).filter fun j=> !(j==i)&& match ops[j]? with
 |some oj=> !(oj.after.any (fun e=>Region.binds md e && e.on==i)||oi.apart ops oj)
 |none=>false
def eY(md:Region.Mode)(ops:Array Oper):Bool×List (List Nat×List Nat):=(Region.noSelect ops,(List.range ops.size).map fun i=>match ops[i]? with
 |some o=>(Lz md o,aaS md ops i o)
 |none=>([],[]))
def EA(T:List (List Nat×List Nat))(l:List Bool)(i:Nat):Bool:= !l.getD i true && match T[i]? with
 |some r=>r.1.all (fun j=>l.getD j false)
 |none=>false
def I2(T:List (List Nat×List Nat))(l:List Bool):List Nat:=(List.range T.length).filter (EA T l)
def Ot(T:List (List Nat×List Nat))(l:List Bool)(i:Nat):Bool:=match T[i]? with
 |some r=>r.2.all (fun j=>l.getD j true)
 |none=>false
def Ua(T:List (List Nat×List Nat))(l:List Bool):Bool:=(List.range T.length).all fun j=> !l.getD j false||match T[j]? with
 |some r=>r.1.all (fun k=>l.getD k false)
 |none=>true
def LJ(T:List (List Nat×List Nat))(i:Nat):Nat→Nat→Bool
 |0,_=>false
 |fuel+1,d=>match T[d]? with
  |some r=>r.1.any fun j=>j==i||LJ T i fuel j
  |none=>false
def Wx(T:List (List Nat×List Nat))(l:List Bool)(ds:List Nat)(i:Nat):Bool:=ds.all fun d=>l.getD d true||LJ T i T.length d
section
variable {md:Region.Mode} {ops:Array Oper} {T:Bool×List (List Nat×List Nat)} {l l' li lj lk:Array Bool} {ds:List Nat} {i j k:Nat}
theorem gd(l:Array Bool)(j:Nat)(b:Bool):l.getD j b=l.toList.getD j b:=by simp[Array.getD_eq_getD_getElem?,List.getD_eq_getElem?_getD]
theorem aqe(o:Oper)(p:Nat→Bool):o.after.all (fun e=> !Region.binds md e||p e.on)=(Lz md o).all p:=by
 unfold Lz;rw[←Array.all_toList];induction o.after.toList with
 |nil=>rfl
 |cons e r ih=>
  rw[List.all_cons,ih,List.filter_cons];cases h:Region.binds md e<;>simp
theorem aEp(o:Oper)(p:Nat→Bool):o.after.any (fun e=>Region.binds md e && p e.on)=(Lz md o).any p:=by
 unfold Lz;rw[←Array.any_toList];induction o.after.toList with
 |nil=>rfl
 |cons e r ih=>
  rw[List.any_cons,ih,List.filter_cons];cases h:Region.binds md e<;>simp
theorem W6:(eY md ops).2.length=ops.size:=by simp[eY]
theorem W8{o:Oper}(h:ops[i]? =some o):(eY md ops).2[i]? =some (Lz md o,aaS md ops i o):=by
 have hi:=(Array.getElem?_eq_some_iff.1 h).1;unfold eY;rw[List.getElem?_map,List.getElem?_range hi,Option.map_some,h]
theorem W7(h:ops[i]? =none):(eY md ops).2[i]? =none:=by
 have hi:ops.size≤i:=Array.getElem?_eq_none_iff.1 h;exact List.getElem?_eq_none (by rw[W6];exact hi)
theorem aFd:EA (eY md ops).2 l.toList i=(!l.getD i true &&((ops[i]?).map (·.after.all fun e=> !Region.binds md e||l.getD e.on false)).getD false):=by
 unfold EA;rw[gd];cases h:ops[i]? with
 |none=>rw[W7 h];rfl
 |some o=>
  rw[W8 h];simp only[Option.map_some,Option.getD_some];rw[←aqe];simp only[gd]
theorem W4:Region.ready md ops l=I2 (eY md ops).2 l.toList:=by
 unfold Region.ready I2;rw[W6];refine List.filter_congr (fun i _=>?_);rw[aFd]
theorem ak0:Region.free md ops l i=Ot (eY md ops).2 l.toList i:=by
 unfold Region.free Ot;cases h:ops[i]? with
 |none=>rw[W7 h]
 |some oi=>
  rw[W8 h];simp only[aaS];rw[List.all_filter]
  congr 1
  funext j;rw[gd];cases hj:ops[j]? with
  |none=>cases(j==i)<;>cases(l.toList.getD j true)<;>simp
  |some oj=>
   cases(j==i)<;>cases(l.toList.getD j true)<;>cases(oj.after.any (fun e=>Region.binds md e && e.on==i)||oi.apart ops oj)<;>simp_all
theorem axZ:Region.N4 md ops l=Ua (eY md ops).2 l.toList:=by
 unfold Region.N4 Ua;rw[W6]
 congr 1
 funext j;rw[gd];cases h:ops[j]? with
 |none=>rw[W7 h]
 |some o=>
  rw[W8 h];simp only;rw[←aqe];simp only[gd]
theorem aqI: ∀(fuel d:Nat),Region.xu md ops i fuel d=LJ (eY md ops).2 i fuel d
 |0,_=>rfl
 |fuel+1,d=>by
  unfold Region.xu LJ;cases h:ops[d]? with
  |none=>rw[W7 h]
  |some o=>
   rw[W8 h];simp only;rw[←aEp]
   congr 1
   funext e;rw[aqI fuel]
theorem aEd:Region.Ww md ops l ds i=Wx (eY md ops).2 l.toList ds i:=by
 unfold Region.Ww Wx;rw[W6]
 congr 1
 funext d;rw[gd,aqI]
theorem aqK(h:EA T.2 l.toList i=true)(hT:eY md ops=T):(Region.ready md ops l).contains i=true:=by
 subst hT;rw[W4];unfold I2;rw[List.contains_iff_mem,List.mem_filter,List.mem_range];refine⟨?_,h⟩;unfold EA at h;rw[Bool.and_eq_true]at h;cases hq:(eY md ops).2[i]? with
 |none=>rw[hq]at h;simp at h
 |some r=>exact(List.getElem?_eq_some_iff.1 hq).1
theorem R4(h:(l.toList.set i true==l'.toList)=true):(l.setIfInBounds i true==l')=true:=by
 rw[beq_iff_eq]at h⊢;apply Array.ext';rw[Array.toList_setIfInBounds];exact h
def TL(T:Bool×List (List Nat×List Nat))(l l':List Bool)(i:Nat):Bool:=T.1 && Ot T.2 l i && EA T.2 l i &&(l.set i true==l')
theorem ajB(hT:eY md ops=T)(h:TL T l.toList l'.toList i=true):TK md ops l l' i=true:=by
 simp only[TL,Bool.and_eq_true]at h;obtain⟨⟨⟨h1,h2⟩,h3⟩,h4⟩:=h;have h5:=aqK h3 hT;have h6:=R4 h4;subst hT;simp only[TK,Bool.and_eq_true];exact⟨⟨⟨h1,by rw[ak0];exact h2⟩,h5⟩,h6⟩
def af5(T:Bool×List (List Nat×List Nat))(ds:List Nat)(l l':List Bool)(i:Nat):Bool:=T.1 && Ot T.2 l i && EA T.2 l i && Ua T.2 l && Wx T.2 l ds i &&(l.set i true==l')
theorem aGc(hT:eY md ops=T)(h:af5 T ds l.toList l'.toList i=true):Sv md ops ds l l' i=true:=by
 simp only[af5,Bool.and_eq_true]at h;obtain⟨⟨⟨⟨⟨h1,h2⟩,h3⟩,h4⟩,h5⟩,h6⟩:=h;have h7:=aqK h3 hT;have h8:=R4 h6;subst hT;simp only[Sv,Bool.and_eq_true];exact⟨⟨⟨⟨⟨h1,by rw[ak0];exact h2⟩,h7⟩,by rw[axZ];exact h4⟩,by rw[aEd];exact h5⟩,h8⟩
theorem rj(hT:eY md ops=T)(h:(I2 T.2 l.toList== [i]&& l.toList.set i true==l'.toList)=true):LK md ops l l' i=true:=by
 simp only[Bool.and_eq_true]at h;obtain⟨h1,h2⟩:=h;subst hT;simp only[LK,Bool.and_eq_true];exact⟨by rw[W4];exact h1,R4 h2⟩
theorem XA(hT:eY md ops=T)(h:(I2 T.2 l.toList== [i,j]&& l.toList.set i true==li.toList && l.toList.set j true==lj.toList)=true):(Region.ready md ops l== [i,j]&& l.setIfInBounds i true==li && l.setIfInBounds j true==lj)=true:=by
 simp only[Bool.and_eq_true]at h⊢;obtain⟨⟨h1,h2⟩,h3⟩:=h;subst hT;exact⟨⟨by rw[W4];exact h1,R4 h2⟩,R4 h3⟩
theorem kX(hT:eY md ops=T)(h:(I2 T.2 l.toList== [])=true):(Region.ready md ops l== [])=true:=by
 subst hT;rw[W4];exact h
def Jf(B:List Nat)(d:Nat):List Nat→Nat
 | []=>0
 |n::r=>(2 ^ n|||(if n<d then B.getD n 0 else 0))|||Jf B d r
def iH(T:List (List Nat×List Nat))(B:List Nat):Bool:=(List.range T.length).all fun d=>match T[d]? with
 |some r=>(B.getD d 0|||Jf B d r.1)==Jf B d r.1
 |none=>false
theorem arO{B:List Nat}{d i:Nat}: ∀{ns:List Nat},(Jf B d ns).testBit i=true→ ∃n ∈ ns,n=i∨(n<d∧(B.getD n 0).testBit i=true)
 | [],h=>by simp[Jf]at h
 |n::r,h=>by
  unfold Jf at h;rw[Nat.testBit_or,Nat.testBit_or,Bool.or_eq_true,Bool.or_eq_true]at h;rcases h with(h|h)|h
  ·rw[Nat.testBit_two_pow]at h;exact⟨n,List.mem_cons_self,.inl (by simpa using h)⟩
  ·by_cases hn:n<d
   ·rw[if_pos hn]at h;exact⟨n,List.mem_cons_self,.inr ⟨hn,h⟩⟩
   ·rw[if_neg hn]at h;simp at h
  ·obtain⟨m,hm,h2⟩:=arO h;exact⟨m,List.mem_cons_of_mem _ hm,h2⟩
theorem aqH{T:List (List Nat×List Nat)}{B:List Nat}(hB:iH T B=true): ∀(fuel d:Nat),d<fuel→d<T.length→(B.getD d 0).testBit i=true→LJ T i fuel d=true
 |0,d,h,_,_=>by omega
 |fuel+1,d,h,hd,hb=>by
  have h1:=List.all_eq_true.1 hB d (List.mem_range.2 hd);cases hr:T[d]? with
  |none=>rw[hr]at h1;simp at h1
  |some r=>
   rw[hr]at h1;simp only[beq_iff_eq]at h1;(have h2:(Jf B d r.1).testBit i=true:=by rw[←h1,Nat.testBit_or,hb,Bool.true_or]);obtain⟨n,hn,h3⟩:=arO h2;unfold LJ;rw[hr];simp only;rw[List.any_eq_true];refine⟨n,hn,?_⟩;rcases h3 with rfl|⟨h4,h5⟩
   ·simp
   ·rw[aqH hB fuel n (by omega) (by omega) h5,Bool.or_true]
def ap2(T:List (List Nat×List Nat))(B:List Nat)(l:List Bool)(ds:List Nat)(i:Nat):Bool:=ds.all fun d=>l.getD d true||(decide (d<T.length)&&(B.getD d 0).testBit i)
def sD(T:Bool×List (List Nat×List Nat))(B:List Nat)(ds:List Nat)(l l':List Bool)(i:Nat):Bool:=T.1 && Ot T.2 l i && EA T.2 l i && Ua T.2 l && ap2 T.2 B l ds i &&(l.set i true==l')
theorem sE{B:List Nat}(hT:eY md ops=T)(hB:iH T.2 B=true)(h:sD T B ds l.toList l'.toList i=true):Sv md ops ds l l' i=true:=by
 refine aGc hT ?_;simp only[sD,af5,Bool.and_eq_true]at h⊢;obtain⟨⟨⟨⟨⟨h1,h2⟩,h3⟩,h4⟩,h5⟩,h6⟩:=h;refine⟨⟨⟨⟨⟨h1,h2⟩,h3⟩,h4⟩,?_⟩,h6⟩;unfold ap2 at h5;unfold Wx;rw[List.all_eq_true]at h5⊢;intro d hd;have h7:=h5 d hd;rw[Bool.or_eq_true,Bool.and_eq_true,decide_eq_true_eq]at h7;rcases h7 with h7|⟨h8,h9⟩
 ·rw[h7,Bool.true_or]
 ·rw[aqH hB _ d h8 h8 h9,Bool.or_true]
theorem k8{P:Program}{Q:Exit→Act→World→Prop}{S:World→Prop}{n:Nat}{a:Act}{w:World}{B:List Nat}(hT:eY md ops=T)(hB:iH T.2 B=true)(h:af (eY md ops=T)→af (iH T.2 B=true)→dX P md ops Q S ds n l a w):dX P md ops Q S ds n l a w:=h ⟨hT⟩ ⟨hB⟩
end
def AY:Code→Nat→Option (Array Oper)
 | .region id ops _,k=>if id==k then some ops else none
 | .seq a b,k=>match AY a k with
  |some o=>some o
  |none=>AY b k
 | .cond _ a b,k=>match AY a k with
  |some o=>some o
  |none=>AY b k
 | .block _ c,k=>AY c k
 | .loop c,k=>AY c k
 | .scope c,k=>AY c k
 | .rangeFunc _ _ a b,k=>match AY a k with
  |some o=>some o
  |none=>AY b k
 |_,_=>none
def opsOf(f:Func)(k:Nat):Array Oper:=((f.body.bind fun c=>AY c k)).getD #[]
end Go.Proofs.YtbpjidekjogfeaaW.dP
