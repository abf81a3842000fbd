/- Used by the law FnPacking. -/
import Derived.Test.YtbpjidekjogfeaaZFnPackingx34
namespace Go.Proofs.Ytbpjidekjogfeaa.A
open Go.RowKit Go.Proofs.YtbpjidekjogfeaaW.cK Go.Proofs.YtbpjidekjogfeaaW.dP Go.Proofs.YtbpjidekjogfeaaW.eE
set_option linter.unusedVariables false
set_option linter.unusedSimpArgs false
theorem aFv{cs:List br}(h:Small cs)(i:Nat){c:br}(h1:c.f1.length≤1048576)(h2:c.f2.length≤1048576):Small (cs.set i c):=by
 refine⟨by rw[List.length_set];exact h.1,fun x hx=>?_⟩;rcases List.mem_or_eq_of_mem_set hx with hx|hx
 ·exact h.2 x hx
 ·subst hx;exact⟨h1,h2⟩
theorem aq1{cs:List br}(h:Small cs){c:br}(hl:cs.length<1048576)(h1:c.f1.length≤1048576)(h2:c.f2.length≤1048576):Small (cs++ [c]):=by
 refine⟨by rw[List.length_append,List.length_singleton];omega,fun x hx=>?_⟩;rcases List.mem_append.mp hx with hx|hx
 ·exact h.2 x hx
 ·rw[List.mem_singleton.mp hx];exact⟨h1,h2⟩
theorem aqX(l:List Int)(i y:Int): ∀(d:Nat) (cs:List br),cs.length+d=7→Small cs→ ∃out,Ev (fun k=>qp.l0 k cs l i y) (out,i,y)∧Small out
 |0,cs,hd,hs=>by
  refine⟨cs,Ev.succ ?_,hs⟩;simp only[qp.l0];exact Ev.neg (by omega) (Ev.ret _)
 |d+1,cs,hd,hs=>by
  have hN:=aqi 3 [] (by simp) (by omega) (by simp);rw[aqk (by omega)]at hN;obtain⟨out,e,h⟩:=aqX l i y d (cs++ [⟨3,[],[⟨0,3,0,false⟩]⟩]) (by rw[List.length_append,List.length_singleton];omega) (aq1 hs (by omega) (by simp) (by simp));refine⟨out,Ev.succ ?_,h⟩;simp only[qp.l0];exact Ev.pos (by omega) (Ev.bind hN (Ev.pos (by omega) e))
theorem aw1(l:List Int)(hl:l.length≤140737488351232)(i y:Int)(hi:0≤i): ∃cs i' y',Ev (fun k=>qp.f k l i y) (cs,i',y')∧Small cs∧0≤i':=by
 obtain⟨v,i1,y1,e1,a0,_,a1,c1⟩:=rZ l hl i y 3 hi;have a1:=a1 (by omega);obtain⟨cs,i2,y2,e2,g1,g2,c2⟩:=ajO l hl (1+v.toNat) [] i1 y1 (by simp;omega) c1 (fun j c e=>by simp at e);(have g3:1≤cs.length∧cs.length≤3:=by rw[g2,List.length_nil];omega);obtain⟨_,hs⟩:=g1.aw5 g3;have eb:Ev (fun k=>nA.f k l i y) (cs,i2,y2):=by
  unfold nA.f;refine Ev.bind (Ev.const e1) ?_;rw[wid (1+v) (by omega) (by omega),show 1+v=((1+v.toNat:Nat):Int) by omega];exact e2
 obtain⟨o,i3,y3,e3,_,_,_,c3⟩:=rZ l hl i2 y2 14 c2;unfold qp.f;by_cases o0:o=0
 ·obtain⟨h,fx,bx,i4,y4,e4,h1,h2,c4,_⟩:=aw2 l hl i3 y3 c3;exact⟨_,_,_,Ev.bind eb (Ev.bind (Ev.const e3) (Ev.pos o0 (Ev.bind e4 (Ev.pos (by dsimp only;omega) (Ev.ret _))))),aFv hs _ (by show fx.length≤_;omega) (by show bx.length≤_;omega),c4⟩
 ·by_cases o1:o=1
  ·have hm:aN cs 0 ∈ cs:=by
    show cs.getD 0 lJ ∈ cs;rw[oG _ (show 0<cs.length by omega)];exact List.getElem_mem _
   have:=hs.2 _ hm;exact⟨_,_,_,Ev.bind eb (Ev.bind (Ev.const e3) (Ev.neg o0 (Ev.pos o1 (Ev.pos (by dsimp only;omega) (Ev.pos (by dsimp only;omega) (Ev.ret _)))))),aq1 hs (by omega) this.1 this.2,c3⟩
  ·by_cases o2:o=2
   ·exact⟨_,_,_,Ev.bind eb (Ev.bind (Ev.const e3) (Ev.neg o0 (Ev.neg o1 (Ev.pos o2 (Ev.ret _))))),⟨by simp,by simp⟩,c3⟩
   ·by_cases o3:o=3
    ·obtain⟨out,e4,h4⟩:=aqX l i3 y3 (7-cs.length) cs (by omega) hs;exact⟨_,_,_,Ev.bind eb (Ev.bind (Ev.const e3) (Ev.neg o0 (Ev.neg o1 (Ev.neg o2 (Ev.pos o3 e4))))),h4,c3⟩
    ·exact⟨_,_,_,Ev.bind eb (Ev.bind (Ev.const e3) (Ev.neg o0 (Ev.neg o1 (Ev.neg o2 (Ev.neg o3 (Ev.ret _)))))),hs,c3⟩
theorem aq2(l:List Int)(hl:l.length≤140737488351232): ∀(n:Nat) (out:List Int) (i y:Int),out.length+n≤100→0≤i→(∀x ∈ out,-1≤x)→ ∃o i' y',Ev (fun k=>pP.l0 k out (n:Int) l i y) (o,i',y')∧o.length≤out.length+n+1∧0≤i'∧ ∀x ∈ o,-1≤x
 |0,out,i,y,hn,hi,hx=>by
  obtain⟨b,i1,y1,e1,c1⟩:=aev l hl i y 14 hi;cases b with
  |true=>
   obtain⟨v,i2,y2,e2,hv,c2⟩:=WN l hl i1 y1 [0,(-1),24,9223372036854775807] (by simp) c1;refine⟨out++ [v],i2,y2,Ev.succ ?_,by rw[List.length_append,List.length_singleton];omega,c2,fun x hx'=>?_⟩
   ·simp only[pP.l0];exact Ev.neg (by omega) (Ev.bind (Ev.const e1) (Ev.pos rfl (Ev.bind (Ev.const e2) (Ev.pos (by omega) (Ev.ret _)))))
   ·rcases List.mem_append.mp hx' with hx'|hx'
    ·exact hx x hx'
    ·rw[List.mem_singleton.mp hx'];simp only[List.mem_cons,List.not_mem_nil,or_false]at hv;omega
  |false=>
   refine⟨out,i1,y1,Ev.succ ?_,by omega,c1,hx⟩;simp only[pP.l0];exact Ev.neg (by omega) (Ev.bind (Ev.const e1) (Ev.neg (by simp) (Ev.ret _)))
 |n+1,out,i,y,hn,hi,hx=>by
  obtain⟨v,i1,y1,e1,a0,_,a1,c1⟩:=rZ l hl i y 5 hi;have a1:=a1 (by omega);obtain⟨o,i2,y2,e2,g1,g2,g3⟩:=aq2 l hl n (out++ [1+v]) i1 y1 (by rw[List.length_append,List.length_singleton];omega) c1 (fun x hx'=>by
   rcases List.mem_append.mp hx' with hx'|hx'
   ·exact hx x hx'
   ·rw[List.mem_singleton.mp hx'];omega)
  refine⟨o,i2,y2,Ev.succ ?_,by rw[List.length_append,List.length_singleton]at g1;omega,g2,g3⟩;simp only[pP.l0];refine Ev.pos (by omega) (Ev.bind (Ev.const e1) (Ev.pos (by omega) ?_));dsimp only;rw[wid (1+v) (by omega) (by omega),SH (n+1) (by omega) (by omega)];exact e2
theorem aET(l:List Int)(hl:l.length≤140737488351232): ∃cs sizes,Ev (fun k=>I5.f k l) (cs,sizes)∧Small cs∧sizes.length≤8∧ ∀x ∈ sizes,-1≤x:=by
 obtain⟨y0,e0⟩:=aEr l hl;obtain⟨cs,i1,y1,e1,h1,c1⟩:=aw1 l hl 0 y0 (by omega);obtain⟨v,i2,y2,e2,a0,_,a1,c2⟩:=rZ l hl i1 y1 8 c1;have a1:=a1 (by omega);obtain⟨o,i3,y3,e3,g1,g2,g3⟩:=aq2 l hl v.toNat [] i2 y2 (by simp;omega) c2 (by simp);refine⟨cs,o,?_,h1,by rw[List.length_nil]at g1;omega,g3⟩;unfold I5.f;refine Ev.bind e0 (Ev.bind e1 (Ev.bind (a:=(o,i3,y3)) ?_ (Ev.ret _)));unfold pP.f;rw[show wrap64 (7+1)=8 by unfold wrap64;omega];refine Ev.bind (Ev.const e2) ?_;dsimp only;rw[show v=((v.toNat:Nat):Int) by omega];exact e3
theorem aqt(sizes l first:List Int)(ok:Bool)(hl:sizes.length≤1048576)(hf:first.length≤1048576)(h1:(∃x ∈ sizes,x<1)→ok=false)(h2:(∀x ∈ sizes,1≤x)→ok=(((first.length:Int))==(sizes.length:Int))∧(ok=true→first=l)): ∀(rest:List Int) (i:Nat),sizes.drop i=rest→i≤sizes.length→(∀j,j<i→1≤sizes.getD j 0)→Ev (fun k=>dw.l1 k sizes l ok first (i:Int)) true
 | [],i,hd,hi,hp=>by
  have he:=jA hd hi;obtain⟨e1,e2⟩:=h2 (fun x hx=>by
   obtain⟨j,hj,rfl⟩:=List.getElem_of_mem hx;have:=hp j (by omega);rw[oG 0 hj]at this;exact this)
  refine Ev.succ ?_;simp only[dw.l1];refine Ev.neg (by omega) (Ev.pos (by rw[←e1];cases ok<;>rfl) ?_);cases ok with
  |false=>exact Ev.neg (by simp) (Ev.ret _)
  |true=>
   refine Ev.pos rfl ?_;rw[e2 rfl]at hf⊢;exact Ev.bind (aqU l hf) (Ev.ret _)
 |s::rest,i,hd,hi,hp=>by
  obtain⟨q1,q2,q3⟩:=ja 0 hd;have er:rd sizes (i:Int)=s:=q2;have hm:s ∈ sizes:=by
   (have:s ∈ sizes.drop i:=by rw[hd];exact List.mem_cons_self);exact List.mem_of_mem_drop this
  refine Ev.succ ?_;simp only[dw.l1,er];rw[fY i (by omega)];refine Ev.pos (by omega) (Ev.pos (by omega) ?_);by_cases c:s<1
  ·exact Ev.pos c ((Ev.ret _).to (by rw[h1 ⟨s,hm,c⟩];rfl))
  ·refine Ev.neg c (aqt sizes l first ok hl hf h1 h2 rest (i+1) q3 (by omega) (fun j hj=>?_));by_cases cj:j=i
   ·subst cj;rw[q2];omega
   ·exact hp j (by omega)
theorem aqu(cs:List br)(hs:Small cs)(sizes l:List Int)(ok:Bool)(gs:List aZ)(hl:sizes.length≤8)(hcan:ok=true→lD cs=true∧(∀s ∈ sizes,1≤s)∧j3 sizes (dH (dG 0 cs)))
  (fin: ∀x:Int,Ev (fun k=>dw.j4 k cs sizes l ok gs x false) true): ∀(d i:Nat),i+d=sizes.length→Ev (fun k=>dw.l0 k cs sizes l ok gs (i:Int)) true
 |0,i,hi=>by
  refine Ev.succ ?_;simp only[dw.l0];exact Ev.neg (by omega) (fin _)
 |d+1,i,hi=>by
  refine Ev.succ ?_;simp only[dw.l0];refine Ev.pos (by omega) ?_;cases ok with
  |false=>exact fin _
  |true=>
   obtain⟨hb,h1,hf⟩:=hcan rfl;have ih:=aqu cs hs sizes l true gs hl hcan fin d (i+1) (by omega);have hz:oc (sizes.take i++sizes.drop (i+1))=true:=by
    rw[EB];refine⟨fun x hx=>?_,?_⟩
    ·rcases List.mem_append.mp hx with hx|hx
     ·exact h1 x (List.mem_of_mem_take hx)
     ·exact h1 x (List.mem_of_mem_drop hx)
    ·rw[List.length_append,List.length_take,List.length_drop];omega
   have hc:th cs (sizes.take i++sizes.drop (i+1))=true:=by
    unfold th;rw[hb,hz,Bool.true_and,Bool.true_and,uK];exact azs sizes _ i (by omega) (fun s hs=>by have:=h1 s hs;omega) hf
   have e:=akh cs hs (sizes.take i++sizes.drop (i+1)) (by rw[List.length_append,List.length_take,List.length_drop];omega);rw[hc]at e;refine Ev.succ ?_;simp only[dw.j4];refine Ev.pos (by trivial) (Ev.bind (Ev.ret _) (Ev.pos (by omega) (Ev.pos (by omega) (Ev.bind (Ev.ret _) (Ev.pos ?_ (Ev.bind (Ev.ret _) ?_))))))
   ·rw[Int.toNat_natCast,List.length_take,List.length_nil];omega
   ·rw[fY i (by omega),Int.toNat_natCast,Int.toNat_natCast];refine Ev.pos (by omega) (Ev.pos (by omega) (Ev.bind (Ev.ret _) (Ev.pos ?_ ?_)))
    ·rw[List.length_append,List.length_take,List.length_drop,List.length_nil];omega
    ·exact Ev.bind e (Ev.pos rfl ih)
theorem aEO{cs:List br}{sizes:List Int}:(uJ cs sizes).2=th cs sizes:=by
 unfold uJ th;by_cases h:lD cs=true∧oc sizes=true
 ·rw[if_pos h,h.1,h.2];cases fF sizes (dH (dG 0 cs))<;>rfl
 ·rw[if_neg h];by_cases hb:lD cs=true
  ·rw[hb,show oc sizes=false by simpa using fun hz=>h ⟨hb,hz⟩];rfl
  ·rw[show lD cs=false by simpa using hb];rfl
theorem aEN(cs:List br)(sizes:List Int)(hl:sizes.length≤8):(uJ cs sizes).1.length≤8:=by
 unfold uJ;split
 ·cases e:fF sizes (dH (dG 0 cs))with
  |none=>simp[RQ]
  |some l=>
   have:=LN _ _ _ e;show l.length≤8;omega
 ·simp
theorem aEM(cs:List br)(hs:Small cs)(sizes:List Int)(hl:sizes.length≤8)(hm: ∀x ∈ sizes,-1≤x):Ev (fun k=>dw.j0 k cs sizes (uJ cs sizes).1 (th cs sizes) false) true:=by
 refine Ev.succ ?_;simp only[dw.j0];refine Ev.neg (by simp) (Ev.bind (ajM cs hs) (Ev.bind (NJ cs hs) ?_));by_cases hb:lD cs=true
 ·(have hg:wT cs=dG 0 cs:=by unfold wT;rw[if_pos hb]);have aOy:=hg▸Z9 cs;(have aCs: ∀g ∈ dG 0 cs,0≤g.f2∧g.f2≤24:=fun g h=>by have:=aac cs g (hg▸h);omega);rw[hg];have hcan:th cs sizes=true→lD cs=true∧(∀s ∈ sizes,1≤s)∧j3 sizes (dH (dG 0 cs)):=by
   intro h;unfold th at h;rw[Bool.and_eq_true,Bool.and_eq_true]at h;exact⟨h.1.1,((EB sizes).mp h.1.2).1,(uK _ _).mp h.2⟩
  have amb:(∀s ∈ sizes,1≤s)→th cs sizes=(fF sizes (dH (dG 0 cs))).isSome:=by
   intro h;unfold th;rw[hb,(EB sizes).mpr ⟨h,hl⟩,Bool.true_and,Bool.true_and]
  have hF:=akU (dG 0 cs) sizes (by omega) (by omega) hm sizes [] (dH (dG 0 cs)) rfl (by simp) (by trivial) rfl (fun x hx=>by
   obtain⟨g,h,rfl⟩:=List.mem_map.mp hx;have:=aCs g h;rw[List.length_nil];omega)
  have Wm:Ev (fun k=>dw.j1 k cs sizes (uJ cs sizes).1 (th cs sizes) (dG 0 cs) false) true:=by
   refine Ev.succ ?_;simp only[dw.j1];refine Ev.neg (by simp) (Ev.bind (NJ cs hs) (Ev.pos hb ?_));have done:Ev (fun k=>dw.j2 k cs sizes (uJ cs sizes).1 (th cs sizes) (dG 0 cs) true) true:=by
    refine Ev.succ ?_;simp only[dw.j2];exact Ev.pos (by trivial) (Ev.ret _)
   by_cases c4:(sizes.length:Int)>4
   ·exact Ev.pos c4 done
   ·refine Ev.neg c4 ?_;by_cases c5:((dG 0 cs).length:Int)>5
    ·rw[decide_eq_true c5];exact done
    ·rw[decide_eq_false c5];refine Ev.succ ?_;simp only[dw.j2];refine Ev.neg (by simp) ?_;refine aqu cs hs sizes _ _ _ hl hcan (fun x=>?_) sizes.length 0 (by omega);refine Ev.succ ?_;simp only[dw.j4];refine Ev.neg (by simp) (Ev.bind hF ?_);refine aqt sizes _ _ _ (by omega) ?_ ?_ ?_ sizes 0 rfl (by omega) (fun j hj=>absurd hj (Nat.not_lt_zero _))
     ·cases e:fF sizes (dH (dG 0 cs))with
      |none=>simp[KN]
      |some l=>
       have:=LN _ _ _ e;show l.length≤_;omega
     ·rintro⟨x,hx,h1⟩;cases e:th cs sizes with
      |false=>rfl
      |true=>
       have:=(hcan e).2.1 x hx;omega
     ·intro h1;rw[amb h1];have eP:uJ cs sizes=RQ (fF sizes (dH (dG 0 cs))):=by
       unfold uJ;rw[if_pos ⟨hb,(EB sizes).mpr ⟨h1,hl⟩⟩]
      rw[eP];cases e:fF sizes (dH (dG 0 cs))with
      |some l=>
       have VH:=LN _ _ _ e;refine⟨?_,fun _=>rfl⟩;show true=((l.length:Int)==(sizes.length:Int));rw[VH];exact(beq_self_eq_true _).symm
      |none=>
       refine⟨?_,fun h=>by simp at h⟩;show false=((([]:List Int).length:Int)==(sizes.length:Int));(have hne:sizes≠ []:=fun h=>by rw[h]at e;simp[fF]at e);have:0<sizes.length:=List.length_pos_iff.mpr hne;refine(beq_eq_false_iff_ne.mpr ?_).symm;rw[List.length_nil];omega
  refine Ev.pos hb ?_;by_cases c0:(sizes.length:Int)>0
  ·refine Ev.pos c0 (Ev.pos (by omega) (Ev.bind (aBf cs hs sizes (by omega)) ?_));by_cases ch:Cr cs sizes=(sizes.length:Int)
   ·refine Ev.pos ch ?_;have e:th cs sizes=true:=by
     unfold Cr at ch;by_cases cz:lD cs=true∧oc sizes=true
     ·rw[if_pos cz]at ch;have hf:=ana sizes (dH (dG 0 cs)) (by omega);rw[amb ((EB sizes).mp cz.2).1,uK];exact hf
     ·rw[if_neg cz]at ch;omega
    rw[e]at Wm⊢;exact Wm
   ·exact Ev.neg ch Wm
  ·exact Ev.neg c0 Wm
 ·refine Ev.neg hb ?_;refine Ev.succ ?_;simp only[dw.j1];refine Ev.neg (by simp) (Ev.bind (NJ cs hs) (Ev.neg hb ?_));refine Ev.succ ?_;simp only[dw.j2];exact Ev.pos (by trivial) (Ev.ret _)
theorem aEX: ∀(l0:List Int),aqm l0→ ∃k,dw.f k l0=some true:=by
 rintro l ⟨hl,_⟩;unfold maxLen at hl;refine Ev.get ?_;unfold dw.f;refine Ev.bind (Ev.const rfl) ?_;by_cases c:(l.length:Int)>1048576
 ·exact Ev.pos (decide_eq_true c) (Ev.ret _)
 ·refine Ev.neg (by simpa using c) ?_;obtain⟨cs,sizes,e1,hs,h8,hm⟩:=aET l (by omega);have hp:=aEN cs sizes h8;refine Ev.bind e1 (Ev.bind (aqx cs hs sizes (by omega)) (Ev.bind (aEU cs hs sizes (by omega)) (Ev.neg (by simp) (Ev.bind (aqU _ (by omega)) (Ev.pos rfl (Ev.bind (akh cs hs sizes (by omega)) ?_))))));dsimp only;rw[aEO,bne_self_eq_false];exact aEM cs hs sizes h8 hm
end Go.Proofs.Ytbpjidekjogfeaa.A
