/- Used by the law FnPacking. -/
import Derived.Test.YtbpjidekjogfeaaZFnPackingx31
import Derived.ProofKit
import Derived.OpenShut
import Derived.ShutString
import Derived.ChangeOld
import Derived.SizedLaws
import Derived.ChangeArms
namespace Go.Proofs.Ytbpjidekjogfeaa.A
open Go.RowKit Go.Proofs.YtbpjidekjogfeaaW.cK Go.Proofs.YtbpjidekjogfeaaW.dP Go.Proofs.YtbpjidekjogfeaaW.eE
attribute [local go_sem] gP gT gS gW gR gV gQ gU
set_option linter.unusedVariables false
set_option linter.unusedSimpArgs false
mutual
def dw.j0:Nat→List (br)→List Int→List Int→Bool→Bool→Option (Bool)
 |0,_,_,_,_,_=>none
 |k+1,x3,x4,x5,x6,x47=>if x47=true then(some false)else((iu.f k x3).bind fun lX=>((eK.f k x3).bind fun afO=>(if afO=true then(if(x4.length:Int)>0 then(if(x4.length:Int)≤8 then((jd.f k x3 x4).bind fun C5=>(if C5=(x4.length:Int)then(dw.j1 k x3 x4 x5 x6 lX (!x6))else(dw.j1 k x3 x4 x5 x6 lX false)))else(dw.j1 k x3 x4 x5 x6 lX false))else(dw.j1 k x3 x4 x5 x6 lX false))else(dw.j1 k x3 x4 x5 x6 lX false))))
def dw.j1:Nat→List (br)→List Int→List Int→Bool→List (aZ)→Bool→Option (Bool)
 |0,_,_,_,_,_,_=>none
 |k+1,x3,x4,x5,x6,x9,x73=>if x73=true then(some false)else((eK.f k x3).bind fun afP=>(if afP=true then(if(x4.length:Int)>4 then(dw.j2 k x3 x4 x5 x6 x9 true)else(dw.j2 k x3 x4 x5 x6 x9 (decide ((x9.length:Int)>5))))else(dw.j2 k x3 x4 x5 x6 x9 true)))
def dw.j2:Nat→List (br)→List Int→List Int→Bool→List (aZ)→Bool→Option (Bool)
 |0,_,_,_,_,_,_=>none
 |k+1,x3,x4,x5,x6,x9,x86=>if x86=true then(some true)else(dw.l0 k x3 x4 x5 x6 x9 0)
def dw.l0:Nat→List (br)→List Int→List Int→Bool→List (aZ)→Int→Option (Bool)
 |0,_,_,_,_,_,_=>none
 |k+1,x3,x4,x5,x6,x9,eR=>if eR<(x4.length:Int)then(dw.j4 k x3 x4 x5 x6 x9 eR x6)else(dw.j4 k x3 x4 x5 x6 x9 eR false)
def dw.j4:Nat→List (br)→List Int→List Int→Bool→List (aZ)→Int→Bool→Option (Bool)
 |0,_,_,_,_,_,_,_=>none
 |k+1,x3,x4,x5,x6,x9,eR,x93=>if x93=true then((some (([]:List Int):List Int)).bind fun Bt=>(if 0≤eR then(if eR≤(x4.length:Int)then((some (x4.take (eR:Int).toNat:List Int)).bind fun tX=>(if Bt.length+tX.length<17592186044416 then((some (Bt++tX:List Int)).bind fun qy=>(if 0≤(wrap64 (eR+1))then(if(wrap64 (eR+1))≤(x4.length:Int)then((some (x4.drop ((wrap64 (eR+1)):Int).toNat:List Int)).bind fun lI=>(if qy.length+lI.length<17592186044416 then((tH.f k x3 (qy++lI)).bind fun tQ=>(if tQ=true then(dw.l0 k x3 x4 x5 x6 x9 (wrap64 (eR+1)))else(some false)))else(none)))else(none))else(none)))else(none)))else(none))else(none)))else((hU.f k x9 x4 (([]:List Int))).bind fun sy=>(dw.l1 k x4 x5 x6 sy 0))
def dw.l1:Nat→List Int→List Int→Bool→List Int→Int→Option (Bool)
 |0,_,_,_,_,_=>none
 |k+1,x4,x5,x6,fG,pQ=>if pQ<(x4.length:Int)then(if 0≤pQ then(if(rd x4 pQ)<1 then(some (!x6))else(dw.l1 k x4 x5 x6 fG (wrap64 (pQ+1))))else(none))else(if(x6==((fG.length:Int)==(x4.length:Int)))=true then(if x6=true then((oL.f k fG x5).bind fun afQ=>(some afQ))else(some true))else(some false))
end
def dw.f(k:Nat)(l0:List Int):Option (Bool):=(Lw.f l0).bind fun Sc=>(if Sc=true then(some true)else((I5.f k l0).bind fun mj=>((kj.f k mj.1 mj.2).bind fun o6=>((dI.f k mj.1 mj.2).bind fun NR=>(if(o6.2 !=NR.2)=true then(dw.j0 k mj.1 mj.2 o6.1 o6.2 true)else((oL.f k o6.1 NR.1).bind fun Sd=>(if Sd=true then((tH.f k mj.1 mj.2).bind fun L3=>(dw.j0 k mj.1 mj.2 o6.1 o6.2 (L3 !=o6.2)))else(dw.j0 k mj.1 mj.2 o6.1 o6.2 true))))))))
def dw.Nw:Bool×List (List Nat×List Nat):=(true,[([],[]),([],[]),([],[]),([],[]),([2,3],[2,3]),([1,4],[1,4]),([],[]),([],[]),([7],[7]),([6,8],[6,8]),([5,9,5],[5,9]),([0,10,10],[0,10]),([11],[11])])
def dw.Yy:List Nat:= [0,0,0,0,12,30,0,0,128,448,1022,2047,4095]
theorem dw.af3:eY .any (opsOf Try.f14 16)=dw.Nw:=by kernel_rfl
theorem dw.aag:iH dw.Nw.2 dw.Yy=true:=by kernel_rfl
set_option maxHeartbeats 8000000 in
set_option maxRecDepth 100000 in
theorem dw.calls(k:Nat)(A0:Option Addr)(c0:Nat)(l0:List Int)(r:Bool)(w:World)(cx:Kd.C (Kd.int .u8) w A0 l0.length l0)(hc0:l0.length≤c0)(VM:af (r=true))(h:dw.f k l0=some r):
  Calls Try.prog 14 #[.slice A0 l0.length c0] w fun e w'=>e= .returned (.bool r)∧Below w.heap.size w w':=by
 have cT:=af.mk cx;have gj:=af.mk hc0;clear cx hc0;have HB:=af.mk (Below.refl w.heap.size w);have H:((Lw.f l0).bind fun Sc=>(if Sc=true then(some true)else((I5.f k l0).bind fun mj=>((kj.f k mj.1 mj.2).bind fun o6=>((dI.f k mj.1 mj.2).bind fun NR=>(if(o6.2 !=NR.2)=true then(dw.j0 k mj.1 mj.2 o6.1 o6.2 true)else((oL.f k o6.1 NR.1).bind fun Sd=>(if Sd=true then((tH.f k mj.1 mj.2).bind fun L3=>(dw.j0 k mj.1 mj.2 o6.1 o6.2 (L3 !=o6.2)))else(dw.j0 k mj.1 mj.2 o6.1 o6.2 true)))))))))=some r:=h;clear h;replace H:=Option.bind_eq_some_iff.mp H;obtain⟨Sc,jG,H⟩:=H;(try dsimp only at H);have A2:=af.mk jG;clear jG;by_cases c3:Sc=true
 ·subst c3;rw[if_pos rfl]at H;obtain rfl:=Option.some.inj H;go_enter Try.func14,Try.ntmps14;go_wp2_with (first|((with_reducible refine b5 (f:=27) rfl ?_);refine b8 (some 14) rfl rfl Try.func27 (by kernel_rfl) rfl #[.slice A0 l0.length c0] rfl bM ?_;(with_reducible refine(Lw.calls _ _ l0 true _ ?aD ?aE A2.1).mono ?_);(case aD=>repeat (first|exact cT.1|(with_reducible refine Kd.xO ?_ _)|(with_reducible refine Kd.xQ ?_ _)|(with_reducible refine Kd.xP ?_)));(case aE=>exact gj.1);rintro e w' ⟨rfl,⟨nd,rfl⟩⟩;refine⟨_,rfl,?_⟩));go_ret;exact⟨by first|rfl|(simp[bg,bh]<;>rfl)|(simp[*,bg,bh]<;>rfl),bl HB.1⟩
 ·replace c3:=Bool.eq_false_iff.mpr c3;subst c3;rw[if_neg (show¬(false=true) by decide)]at H;replace H:=Option.bind_eq_some_iff.mp H;obtain⟨⟨eZ,cl⟩,gY,H⟩:=H;(try dsimp only at H);have A4:=af.mk gY;clear gY;replace H:=Option.bind_eq_some_iff.mp H;obtain⟨⟨nC,jE⟩,ot,H⟩:=H;(try dsimp only at H);have A5:=af.mk ot;clear ot;replace H:=Option.bind_eq_some_iff.mp H;obtain⟨⟨afN,C4⟩,l6,H⟩:=H;(try dsimp only at H);have A6:=af.mk l6;clear l6;have xU:=af.mk H;clear H;go_enter Try.func14,Try.ntmps14
  go_upto_region 6 with(first|((with_reducible refine b5 (f:=27) rfl ?_);refine b8 (some 14) rfl rfl Try.func27 (by kernel_rfl) rfl #[.slice A0 l0.length c0] rfl bM ?_;(with_reducible refine(Lw.calls _ _ l0 false _ ?aD ?aE A2.1).mono ?_);(case aD=>repeat (first|exact cT.1|(with_reducible refine Kd.xO ?_ _)|(with_reducible refine Kd.xQ ?_ _)|(with_reducible refine Kd.xP ?_)));(case aE=>exact gj.1);rintro e w' ⟨rfl,⟨nd,rfl⟩⟩;refine⟨_,rfl,?_⟩)|((with_reducible refine b5 (f:=64) rfl ?_);refine b8 (some 17) rfl rfl Try.func64 (by kernel_rfl) rfl #[.slice A0 l0.length c0] rfl bM ?_;(with_reducible refine(I5.calls k _ _ l0 eZ cl _ ?aD ?aE A4.1).mono ?_);(case aD=>repeat (first|exact cT.1|(with_reducible refine Kd.xO ?_ _)|(with_reducible refine Kd.xQ ?_ _)|(with_reducible refine Kd.xP ?_)));(case aE=>exact gj.1);rintro e w8 ⟨aTh,aGy,rfl,aV,cY,hb⟩;refine⟨_,rfl,?_⟩;have rQ:=af.mk (Kd.BU (Kd.fD (ok':=fun k_=>some k_≠(aGy:Value).ownBlock) aV (fun k_ cB=>cB.2)) (bY (bl HB.1)));have pW:=af.mk (Kd.cv (Kd.aK (ok':=fun k_=>True) cY (fun _ cB=>trivial)) (bY (bl HB.1)));replace HB:=af.mk (aU (bl HB.1) hb);(try clear hb);(try clear bH);(try clear hk);(try clear hi);(try clear aV);(try clear cY);obtain⟨iR,iZ,D4⟩:=Kd.Fx rQ.1;subst D4;obtain⟨iQ,iE,ayT⟩:=Kd.bS pW.1;subst ayT)|((with_reducible refine b5 (f:=53) rfl ?_);refine b8 (some 23) rfl rfl Try.func53 (by kernel_rfl) rfl #[.slice iR eZ.length iZ,.slice iQ cl.length iE] rfl bM ?_;(with_reducible refine(kj.calls k _ _ eZ _ _ cl nC jE _ ?aD ?aE ?bZ ?b9 A5.1).mono ?_);(case aD=>exact cb ((Kd.gI rQ.1).2.2));(case aE=>exact(Kd.gI rQ.1).2.1);(case bZ=>exact cb ((Kd.bC pW.1).2.2));(case b9=>exact(Kd.bC pW.1).2.1);rintro e sF ⟨kn,rfl,aV,hb⟩;refine⟨_,rfl,?_⟩;replace rQ:=af.mk (Kd.DI (nk rQ.1) (Kd.dr aV) hb);have uh:=af.mk (Kd.cv (Kd.gm aV (Kd.dV (rk pW.1))) (bY (bl HB.1)));replace pW:=af.mk (Kd.gl (rk pW.1) (Kd.dr aV) hb);replace HB:=af.mk (aU (bl HB.1) hb);(try clear hb);(try clear bH);(try clear hk);(try clear hi);(try clear aV))|((with_reducible refine b5 (f:=52) rfl ?_);refine b8 (some 29) rfl rfl Try.func52 (by kernel_rfl) rfl #[.slice iR eZ.length iZ,.slice iQ cl.length iE] rfl bM ?_;(with_reducible refine(dI.calls k _ _ eZ _ _ cl afN C4 _ ?aD ?aE ?bZ ?b9 A6.1).mono ?_);(case aD=>exact cb ((Kd.gI rQ.1).2.2));(case aE=>exact(Kd.gI rQ.1).2.1);(case bZ=>exact cb ((Kd.bC pW.1).2.2));(case b9=>exact(Kd.bC pW.1).2.1);rintro e rE ⟨aTi,rfl,aV,hb⟩;refine⟨_,rfl,?_⟩;replace rQ:=af.mk (Kd.DI (nk rQ.1) (Kd.dr aV) hb);have DB:=af.mk (Kd.cv (Kd.gm (Kd.gm aV (Kd.dV (rk pW.1))) (Kd.dV (rk uh.1))) (bY (bl HB.1)));replace pW:=af.mk (Kd.gl (rk pW.1) (Kd.dr aV) hb);replace uh:=af.mk (Kd.gl (rk uh.1) (Kd.dr aV) hb);replace HB:=af.mk (aU (bl HB.1) hb);(try clear hb);(try clear bH);(try clear hk);(try clear hi);(try clear aV)))
  (try simp only[Act.put,List.setIfInBounds_toArray,List.set_cons_zero,List.set_cons_succ])
  go_cut [47] (fun v47 wc=> ∃(kq:Nat) (X1:Bool),v47= .bool X1∧af (dw.j0 kq eZ cl nC jE X1=some r)∧af (kq≤k)∧af (Kd.N gw 41 wc w.heap.size (fun k_=>some k_≠((.slice iQ cl.length iE):Value).ownBlock∧some k_≠(kn:Value).ownBlock) (.slice iR eZ.length iZ) eZ)∧af (Kd.R (Kd.int .i64) 3 wc w.heap.size (fun k_=>some k_≠(kn:Value).ownBlock) (.slice iQ cl.length iE) cl)∧af (Kd.R (Kd.int .i64) 3 wc w.heap.size (fun k_=>some k_≠((.slice iQ cl.length iE):Value).ownBlock) kn nC)∧af (Below w.heap.size w wc))
  case first=>
   have H:=xU.1;clear xU;by_cases cA:(jE !=C4)=true
   ·rw[if_pos cA]at H;have kQ:(jE !=C4)=true:=cA;(try(have yy:decide (jE=C4)=false:=by simpa using cA));(try(have FU:(jE==C4)=false:=by simpa using cA));(try(have aJu: ¬(jE=C4):=by simpa using cA));clear cA;(first|rw[kQ]|(simp only[cu,cF];rw[kQ])|skip);have H':=af.mk H;clear H;go_wp2
    go_meet
    case rel=>exact⟨_,(true),(by first|rfl|(simp;done)|(simp[*];done)),H',⟨by first|omega|exact Nat.le_refl _⟩,⟨by refine nk ?_;exact Kd.fD rQ.1 (fun _ hk=>⟨hk.1.1,hk.1.2⟩)⟩,⟨by refine rk ?_;exact Kd.aK pW.1 (fun _ hk=>hk.1.2)⟩,⟨by refine rk ?_;exact Kd.aK uh.1 (fun _ hk=>hk.1.2)⟩,⟨bl HB.1⟩⟩
   ·rw[if_neg cA]at H;(have kQ:(jE !=C4)=false:=by simpa using cA);(try(have yy:decide (jE=C4)=true:=by simpa using cA));(try(have FU:(jE==C4)=true:=by simpa using cA));clear cA;(first|rw[kQ]|(simp only[cu,cF];rw[kQ])|skip);replace H:=Option.bind_eq_some_iff.mp H;obtain⟨Sd,MF,H⟩:=H;(try dsimp only at H);have SX:=af.mk MF;clear MF;by_cases dA:Sd=true
    ·subst dA;rw[if_pos rfl]at H;replace H:=Option.bind_eq_some_iff.mp H;obtain⟨L3,qz,H⟩:=H;(try dsimp only at H);have sL:=af.mk qz;clear qz;have H':=af.mk H;clear H;obtain⟨mI,mQ,Gb⟩:=Kd.bS uh.1;subst Gb;obtain⟨rL,kR,Gc⟩:=Kd.bS DB.1;subst Gc;go_wp2_with (first|(go_at_call 65;(with_reducible refine(oL.calls k _ _ nC _ _ afN true _ ?aD ?aE ?bZ ?b9 SX.1).mono ?_);(case aD=>exact cb ((Kd.bC uh.1).2.2));(case aE=>exact(Kd.bC uh.1).2.1);(case bZ=>exact cb ((Kd.bC DB.1).2.2));(case b9=>exact(Kd.bC DB.1).2.1);rintro e w' ⟨rfl,⟨nd,rfl⟩⟩)|(go_at_call 44;(with_reducible refine(tH.calls k _ _ eZ _ _ cl L3 _ ?aD ?aE ?bZ ?b9 sL.1).mono ?_);(case aD=>exact cb ((Kd.gI rQ.1).2.2));(case aE=>exact(Kd.gI rQ.1).2.1);(case bZ=>exact cb ((Kd.bC pW.1).2.2));(case b9=>exact(Kd.bC pW.1).2.1);rintro e jZ ⟨rfl,hb⟩;replace rQ:=af.mk (Kd.nH (nk rQ.1) hb);replace pW:=af.mk (Kd.bF (rk pW.1) hb);replace uh:=af.mk (Kd.bF (rk uh.1) hb);replace DB:=af.mk (Kd.bF (rk DB.1) hb);replace HB:=af.mk (aU (bl HB.1) hb);(try clear hb);(try clear bH);(try clear hk);(try clear hi)))
     go_meet
     case rel=>exact⟨_,((L3 !=jE)),(by first|rfl|(simp;done)|(simp[*];done)),H',⟨by first|omega|exact Nat.le_refl _⟩,⟨by refine nk ?_;exact Kd.fD rQ.1 (fun _ hk=>⟨hk.1.1,hk.1.2⟩)⟩,⟨by refine rk ?_;exact Kd.aK pW.1 (fun _ hk=>hk.1.2)⟩,⟨by refine rk ?_;exact Kd.aK uh.1 (fun _ hk=>hk.1.2)⟩,⟨bl HB.1⟩⟩
    ·replace dA:=Bool.eq_false_iff.mpr dA;subst dA;rw[if_neg (show¬(false=true) by decide)]at H;have H':=af.mk H;clear H;obtain⟨aha,akl,abO⟩:=Kd.bS uh.1;subst abO;obtain⟨Dv,Cc,D2⟩:=Kd.bS DB.1;subst D2;go_wp2_with (first|(go_at_call 65;(with_reducible refine(oL.calls k _ _ nC _ _ afN false _ ?aD ?aE ?bZ ?b9 SX.1).mono ?_);(case aD=>exact cb ((Kd.bC uh.1).2.2));(case aE=>exact(Kd.bC uh.1).2.1);(case bZ=>exact cb ((Kd.bC DB.1).2.2));(case b9=>exact(Kd.bC DB.1).2.1);rintro e w' ⟨rfl,⟨nd,rfl⟩⟩))
     go_meet
     case rel=>exact⟨_,(true),(by first|rfl|(simp;done)|(simp[*];done)),H',⟨by first|omega|exact Nat.le_refl _⟩,⟨by refine nk ?_;exact Kd.fD rQ.1 (fun _ hk=>⟨hk.1.1,hk.1.2⟩)⟩,⟨by refine rk ?_;exact Kd.aK pW.1 (fun _ hk=>hk.1.2)⟩,⟨by refine rk ?_;exact Kd.aK uh.1 (fun _ hk=>hk.1.2)⟩,⟨bl HB.1⟩⟩
  case rest=>
   clear xU;(try clear c1);(try clear c2);(try clear p2);(try clear c3);(try clear c5);(try clear c6);(try clear cA);(try clear kQ);(try clear yy);(try clear FU);(try clear dR);(try clear dA);obtain⟨kq,X1,rfl,HA,kr,aI,dJ,bL,HB⟩:=hcut;cases kq with
   |zero=>exact absurd HA.1 (by simp[dw.j0])
   |succ kY=>
    have H:=HA.1;clear HA;simp only[dw.j0]at H;by_cases iX:X1=true
    ·subst iX;rw[if_pos rfl]at H;exact absurd (Option.some.inj H) (by rw[VM.1];decide)
    ·replace iX:=Bool.eq_false_iff.mpr iX;subst iX;rw[if_neg (show¬(false=true) by decide)]at H;replace H:=Option.bind_eq_some_iff.mp H;obtain⟨lX,MK,H⟩:=H;(try dsimp only at H);have SY:=af.mk MK;clear MK;have YP:=af.mk H;clear H
     go_upto_region 9 with(first|((with_reducible refine b5 (f:=16) rfl ?_);refine b8 (some 49) rfl rfl Try.func16 (by kernel_rfl) rfl #[.slice iR eZ.length iZ] rfl bM ?_;(with_reducible refine(iu.calls kY _ _ eZ lX _ ?aD ?aE SY.1).mono ?_);(case aD=>exact cb ((Kd.gI aI.1).2.2));(case aE=>exact(Kd.gI aI.1).2.1);rintro e SD ⟨uR,rfl,aV,hb⟩;refine⟨_,rfl,?_⟩;replace aI:=af.mk (Kd.DI (nk aI.1) (Kd.dr aV) hb);replace dJ:=af.mk (Kd.bF (rk dJ.1) hb);replace bL:=af.mk (Kd.bF (rk bL.1) hb);have oS:=af.mk (Kd.cv aV (bY (bl HB.1)));replace HB:=af.mk (aU (bl HB.1) hb);(try clear hb);(try clear bH);(try clear hk);(try clear hi);(try clear aV)))
     (try simp only[Act.put,List.setIfInBounds_toArray,List.set_cons_zero,List.set_cons_succ])
     go_cut [73] (fun v73 wc=> ∃(kq:Nat) (X7:Bool),v73= .bool X7∧af (dw.j1 kq eZ cl nC jE lX X7=some r)∧af (kq≤kY)∧af (Kd.N gw 41 wc w.heap.size (fun k_=>some k_≠((.slice iQ cl.length iE):Value).ownBlock∧some k_≠(kn:Value).ownBlock∧some k_≠(uR:Value).ownBlock) (.slice iR eZ.length iZ) eZ)∧af (Kd.R (Kd.int .i64) 3 wc w.heap.size (fun k_=>some k_≠(kn:Value).ownBlock) (.slice iQ cl.length iE) cl)∧af (Kd.R (Kd.int .i64) 3 wc w.heap.size (fun k_=>some k_≠((.slice iQ cl.length iE):Value).ownBlock) kn nC)∧af (Kd.R jh 50 wc w.heap.size (fun _=>True) uR lX)∧af (Below w.heap.size w wc))
     case first=>
      have H:=YP.1;clear YP;replace H:=Option.bind_eq_some_iff.mp H;obtain⟨afO,Ds,H⟩:=H;(try dsimp only at H);have xL:=af.mk Ds;clear Ds;by_cases gC:afO=true
      ·subst gC;rw[if_pos rfl]at H;by_cases iY:(cl.length:Int)>0
       ·rw[if_pos iY]at H;have vG:decide (0<(cl.length:Int))=true:=decide_eq_true iY;have Ks:decide (0<cl.length)=true:=decide_eq_true (by omega);clear iY;(first|rw[vG]|(simp only[cu,cF];rw[vG])|skip);by_cases qH:(cl.length:Int)≤8
        ·rw[if_pos qH]at H;have FX:decide ((cl.length:Int)≤8)=true:=decide_eq_true qH;have Kt:decide (cl.length≤8)=true:=decide_eq_true (by omega);clear qH;replace H:=Option.bind_eq_some_iff.mp H;obtain⟨C5,agP,H⟩:=H;(try dsimp only at H);have iJ:=af.mk agP;clear agP;by_cases qb:C5=(cl.length:Int)
         ·rw[if_pos qb]at H;have FY:(C5==(cl.length:Int))=true:=beq_iff_eq.mpr qb;have Ku:(C5 !=(cl.length:Int))=false:=bne_eq_false_iff_eq.mpr qb;clear qb;have H':=af.mk H;clear H;go_wp2_with (first|((with_reducible refine b5 (f:=61) rfl ?_);refine b8 (some 51) rfl rfl Try.func61 (by kernel_rfl) rfl #[.slice iR eZ.length iZ] rfl bM ?_;(with_reducible refine(eK.calls kY _ _ eZ true _ ?aD ?aE xL.1).mono ?_);(case aD=>exact cb ((Kd.gI aI.1).2.2));(case aE=>exact(Kd.gI aI.1).2.1);rintro e XH ⟨rfl,hb⟩;refine⟨_,rfl,?_⟩;replace aI:=af.mk (Kd.nH (nk aI.1) hb);replace dJ:=af.mk (Kd.bF (rk dJ.1) hb);replace bL:=af.mk (Kd.bF (rk bL.1) hb);replace oS:=af.mk (Kd.bF (rk oS.1) hb);replace HB:=af.mk (aU (bl HB.1) hb);(try clear hb);(try clear bH);(try clear hk);(try clear hi))|(go_at_call 47;(with_reducible refine(jd.calls kY _ _ eZ _ _ cl C5 _ ?aD ?aE ?bZ ?b9 iJ.1).mono ?_);(case aD=>exact cb ((Kd.gI aI.1).2.2));(case aE=>exact(Kd.gI aI.1).2.1);(case bZ=>exact cb ((Kd.bC dJ.1).2.2));(case b9=>exact(Kd.bC dJ.1).2.1);rintro e SF ⟨rfl,hb⟩;replace aI:=af.mk (Kd.nH (nk aI.1) hb);replace dJ:=af.mk (Kd.bF (rk dJ.1) hb);replace bL:=af.mk (Kd.bF (rk bL.1) hb);replace oS:=af.mk (Kd.bF (rk oS.1) hb);replace HB:=af.mk (aU (bl HB.1) hb);(try clear hb);(try clear bH);(try clear hk);(try clear hi)))
          go_meet
          case rel=>exact⟨_,(!jE),(by first|rfl|(simp;done)|(simp[*];done)),H',⟨by have:=kr.1;first|omega|exact Nat.le_refl _⟩,⟨by refine nk ?_;exact Kd.fD aI.1 (fun _ hk=>⟨hk.1.1,⟨hk.1.2,hk.2⟩⟩)⟩,⟨rk dJ.1⟩,⟨rk bL.1⟩,⟨rk oS.1⟩,⟨bl HB.1⟩⟩
         ·rw[if_neg qb]at H;have FY:(C5==(cl.length:Int))=false:=beq_eq_false_iff_ne.mpr qb;have Ku:(C5 !=(cl.length:Int))=true:=bne_iff_ne.mpr qb;have H':=af.mk H;clear H;go_wp2_with (first|((with_reducible refine b5 (f:=61) rfl ?_);refine b8 (some 51) rfl rfl Try.func61 (by kernel_rfl) rfl #[.slice iR eZ.length iZ] rfl bM ?_;(with_reducible refine(eK.calls kY _ _ eZ true _ ?aD ?aE xL.1).mono ?_);(case aD=>exact cb ((Kd.gI aI.1).2.2));(case aE=>exact(Kd.gI aI.1).2.1);rintro e SG ⟨rfl,hb⟩;refine⟨_,rfl,?_⟩;replace aI:=af.mk (Kd.nH (nk aI.1) hb);replace dJ:=af.mk (Kd.bF (rk dJ.1) hb);replace bL:=af.mk (Kd.bF (rk bL.1) hb);replace oS:=af.mk (Kd.bF (rk oS.1) hb);replace HB:=af.mk (aU (bl HB.1) hb);(try clear hb);(try clear bH);(try clear hk);(try clear hi))|(go_at_call 47;(with_reducible refine(jd.calls kY _ _ eZ _ _ cl C5 _ ?aD ?aE ?bZ ?b9 iJ.1).mono ?_);(case aD=>exact cb ((Kd.gI aI.1).2.2));(case aE=>exact(Kd.gI aI.1).2.1);(case bZ=>exact cb ((Kd.bC dJ.1).2.2));(case b9=>exact(Kd.bC dJ.1).2.1);rintro e uS ⟨rfl,hb⟩;replace aI:=af.mk (Kd.nH (nk aI.1) hb);replace dJ:=af.mk (Kd.bF (rk dJ.1) hb);replace bL:=af.mk (Kd.bF (rk bL.1) hb);replace oS:=af.mk (Kd.bF (rk oS.1) hb);replace HB:=af.mk (aU (bl HB.1) hb);(try clear hb);(try clear bH);(try clear hk);(try clear hi)))
          go_meet
          case rel=>exact⟨_,(false),(by first|rfl|(simp;done)|(simp[*];done)),H',⟨by have:=kr.1;first|omega|exact Nat.le_refl _⟩,⟨by refine nk ?_;exact Kd.fD aI.1 (fun _ hk=>⟨hk.1.1,⟨hk.1.2,hk.2⟩⟩)⟩,⟨rk dJ.1⟩,⟨rk bL.1⟩,⟨rk oS.1⟩,⟨bl HB.1⟩⟩
        ·rw[if_neg qH]at H;have FX:decide ((cl.length:Int)≤8)=false:=decide_eq_false qH;have Kt:decide (cl.length≤8)=false:=decide_eq_false (by omega);clear qH;have H':=af.mk H;clear H;go_wp2_with (first|((with_reducible refine b5 (f:=61) rfl ?_);refine b8 (some 51) rfl rfl Try.func61 (by kernel_rfl) rfl #[.slice iR eZ.length iZ] rfl bM ?_;(with_reducible refine(eK.calls kY _ _ eZ true _ ?aD ?aE xL.1).mono ?_);(case aD=>exact cb ((Kd.gI aI.1).2.2));(case aE=>exact(Kd.gI aI.1).2.1);rintro e Bk ⟨rfl,hb⟩;refine⟨_,rfl,?_⟩;replace aI:=af.mk (Kd.nH (nk aI.1) hb);replace dJ:=af.mk (Kd.bF (rk dJ.1) hb);replace bL:=af.mk (Kd.bF (rk bL.1) hb);replace oS:=af.mk (Kd.bF (rk oS.1) hb);replace HB:=af.mk (aU (bl HB.1) hb);(try clear hb);(try clear bH);(try clear hk);(try clear hi)))
         go_meet
         case rel=>exact⟨_,(false),(by first|rfl|(simp;done)|(simp[*];done)),H',⟨by have:=kr.1;first|omega|exact Nat.le_refl _⟩,⟨by refine nk ?_;exact Kd.fD aI.1 (fun _ hk=>⟨hk.1.1,⟨hk.1.2,hk.2⟩⟩)⟩,⟨rk dJ.1⟩,⟨rk bL.1⟩,⟨rk oS.1⟩,⟨bl HB.1⟩⟩
       ·rw[if_neg iY]at H;have vG:decide (0<(cl.length:Int))=false:=decide_eq_false iY;have Ks:decide (0<cl.length)=false:=decide_eq_false (by omega);clear iY;(first|rw[vG]|(simp only[cu,cF];rw[vG])|skip);have H':=af.mk H;clear H;go_wp2_with (first|((with_reducible refine b5 (f:=61) rfl ?_);refine b8 (some 51) rfl rfl Try.func61 (by kernel_rfl) rfl #[.slice iR eZ.length iZ] rfl bM ?_;(with_reducible refine(eK.calls kY _ _ eZ true _ ?aD ?aE xL.1).mono ?_);(case aD=>exact cb ((Kd.gI aI.1).2.2));(case aE=>exact(Kd.gI aI.1).2.1);rintro e sJ ⟨rfl,hb⟩;refine⟨_,rfl,?_⟩;replace aI:=af.mk (Kd.nH (nk aI.1) hb);replace dJ:=af.mk (Kd.bF (rk dJ.1) hb);replace bL:=af.mk (Kd.bF (rk bL.1) hb);replace oS:=af.mk (Kd.bF (rk oS.1) hb);replace HB:=af.mk (aU (bl HB.1) hb);(try clear hb);(try clear bH);(try clear hk);(try clear hi)))
        go_meet
        case rel=>exact⟨_,(false),(by first|rfl|(simp;done)|(simp[*];done)),H',⟨by have:=kr.1;first|omega|exact Nat.le_refl _⟩,⟨by refine nk ?_;exact Kd.fD aI.1 (fun _ hk=>⟨hk.1.1,⟨hk.1.2,hk.2⟩⟩)⟩,⟨rk dJ.1⟩,⟨rk bL.1⟩,⟨rk oS.1⟩,⟨bl HB.1⟩⟩
      ·replace gC:=Bool.eq_false_iff.mpr gC;subst gC;rw[if_neg (show¬(false=true) by decide)]at H;have H':=af.mk H;clear H;go_wp2_with (first|((with_reducible refine b5 (f:=61) rfl ?_);refine b8 (some 51) rfl rfl Try.func61 (by kernel_rfl) rfl #[.slice iR eZ.length iZ] rfl bM ?_;(with_reducible refine(eK.calls kY _ _ eZ false _ ?aD ?aE xL.1).mono ?_);(case aD=>exact cb ((Kd.gI aI.1).2.2));(case aE=>exact(Kd.gI aI.1).2.1);rintro e XI ⟨rfl,hb⟩;refine⟨_,rfl,?_⟩;replace aI:=af.mk (Kd.nH (nk aI.1) hb);replace dJ:=af.mk (Kd.bF (rk dJ.1) hb);replace bL:=af.mk (Kd.bF (rk bL.1) hb);replace oS:=af.mk (Kd.bF (rk oS.1) hb);replace HB:=af.mk (aU (bl HB.1) hb);(try clear hb);(try clear bH);(try clear hk);(try clear hi)))
       go_meet
       case rel=>exact⟨_,(false),(by first|rfl|(simp;done)|(simp[*];done)),H',⟨by have:=kr.1;first|omega|exact Nat.le_refl _⟩,⟨by refine nk ?_;exact Kd.fD aI.1 (fun _ hk=>⟨hk.1.1,⟨hk.1.2,hk.2⟩⟩)⟩,⟨rk dJ.1⟩,⟨rk bL.1⟩,⟨rk oS.1⟩,⟨bl HB.1⟩⟩
     case rest=>
      clear YP;(try clear c1);(try clear c2);(try clear p2);(try clear c3);(try clear c5);(try clear c6);(try clear cA);(try clear kQ);(try clear yy);(try clear FU);(try clear dR);(try clear dA);(try clear fS);(try clear iX);(try clear gC);(try clear iY);(try clear vG);(try clear Ks);(try clear qH);(try clear FX);(try clear Kt);(try clear qb);(try clear FY);(try clear Ku);(try clear p2);obtain⟨kq,X7,rfl,HA,BA,aI,dJ,bL,iU,HB⟩:=hcut;cases kq with
      |zero=>exact absurd HA.1 (by simp[dw.j1])
      |succ Wt=>
       have H:=HA.1;clear HA;simp only[dw.j1]at H;by_cases nZ:X7=true
       ·subst nZ;rw[if_pos rfl]at H;exact absurd (Option.some.inj H) (by rw[VM.1];decide)
       ·replace nZ:=Bool.eq_false_iff.mpr nZ;subst nZ;rw[if_neg (show¬(false=true) by decide)]at H;have YR:=af.mk H;clear H
        go_upto_region 11 with(fail)
        go_cut [86] (fun v86 wc=> ∃(kq:Nat) (X8:Bool),v86= .bool X8∧af (dw.j2 kq eZ cl nC jE lX X8=some r)∧af (kq≤Wt)∧af (Kd.N gw 41 wc w.heap.size (fun k_=>some k_≠((.slice iQ cl.length iE):Value).ownBlock∧some k_≠(kn:Value).ownBlock∧some k_≠(uR:Value).ownBlock) (.slice iR eZ.length iZ) eZ)∧af (Kd.R (Kd.int .i64) 3 wc w.heap.size (fun k_=>some k_≠(kn:Value).ownBlock) (.slice iQ cl.length iE) cl)∧af (Kd.R (Kd.int .i64) 3 wc w.heap.size (fun k_=>some k_≠((.slice iQ cl.length iE):Value).ownBlock) kn nC)∧af (Kd.R jh 50 wc w.heap.size (fun _=>True) uR lX)∧af (Below w.heap.size w wc))
        case first=>
         have H:=YR.1;clear YR;replace H:=Option.bind_eq_some_iff.mp H;obtain⟨afP,agV,H⟩:=H;(try dsimp only at H);have Yk:=af.mk agV;clear agV;by_cases tg:afP=true
         ·subst tg;rw[if_pos rfl]at H;by_cases qK:(cl.length:Int)>4
          ·rw[if_pos qK]at H;have Az:decide (4<(cl.length:Int))=true:=decide_eq_true qK;have Kw:decide (4<cl.length)=true:=decide_eq_true (by omega);clear qK;(first|rw[Az]|(simp only[cu,cF];rw[Az])|skip);have H':=af.mk H;clear H;go_wp2_with (first|((with_reducible refine b5 (f:=61) rfl ?_);refine b8 (some 75) rfl rfl Try.func61 (by kernel_rfl) rfl #[.slice iR eZ.length iZ] rfl bM ?_;(with_reducible refine(eK.calls Wt _ _ eZ true _ ?aD ?aE Yk.1).mono ?_);(case aD=>exact cb ((Kd.gI aI.1).2.2));(case aE=>exact(Kd.gI aI.1).2.1);rintro e xD ⟨rfl,hb⟩;refine⟨_,rfl,?_⟩;replace aI:=af.mk (Kd.nH (nk aI.1) hb);replace dJ:=af.mk (Kd.bF (rk dJ.1) hb);replace bL:=af.mk (Kd.bF (rk bL.1) hb);replace iU:=af.mk (Kd.bF (rk iU.1) hb);replace HB:=af.mk (aU (bl HB.1) hb);(try clear hb);(try clear bH);(try clear hk);(try clear hi)))
           go_meet
           case rel=>exact⟨_,(true),(by first|rfl|(simp;done)|(simp[*];done)),H',⟨by have:=kr.1;have:=BA.1;first|omega|exact Nat.le_refl _⟩,⟨by refine nk ?_;exact aI.1⟩,⟨rk dJ.1⟩,⟨rk bL.1⟩,⟨rk iU.1⟩,⟨bl HB.1⟩⟩
          ·rw[if_neg qK]at H;have Az:decide (4<(cl.length:Int))=false:=decide_eq_false qK;have Kw:decide (4<cl.length)=false:=decide_eq_false (by omega);clear qK;(first|rw[Az]|(simp only[cu,cF];rw[Az])|skip);have H':=af.mk H;clear H;go_wp2_with (first|((with_reducible refine b5 (f:=61) rfl ?_);refine b8 (some 75) rfl rfl Try.func61 (by kernel_rfl) rfl #[.slice iR eZ.length iZ] rfl bM ?_;(with_reducible refine(eK.calls Wt _ _ eZ true _ ?aD ?aE Yk.1).mono ?_);(case aD=>exact cb ((Kd.gI aI.1).2.2));(case aE=>exact(Kd.gI aI.1).2.1);rintro e w45 ⟨rfl,hb⟩;refine⟨_,rfl,?_⟩;replace aI:=af.mk (Kd.nH (nk aI.1) hb);replace dJ:=af.mk (Kd.bF (rk dJ.1) hb);replace bL:=af.mk (Kd.bF (rk bL.1) hb);replace iU:=af.mk (Kd.bF (rk iU.1) hb);replace HB:=af.mk (aU (bl HB.1) hb);(try clear hb);(try clear bH);(try clear hk);(try clear hi);obtain⟨as6,ax2,Ur⟩:=Kd.bS iU.1;subst Ur))
           go_meet
           case rel=>exact⟨_,(decide ((lX.length:Int)>5)),(by first|rfl|(simp;done)|(simp[*];done)),H',⟨by have:=kr.1;have:=BA.1;first|omega|exact Nat.le_refl _⟩,⟨by refine nk ?_;exact aI.1⟩,⟨rk dJ.1⟩,⟨rk bL.1⟩,⟨rk iU.1⟩,⟨bl HB.1⟩⟩
         ·replace tg:=Bool.eq_false_iff.mpr tg;subst tg;rw[if_neg (show¬(false=true) by decide)]at H;have H':=af.mk H;clear H;go_wp2_with (first|((with_reducible refine b5 (f:=61) rfl ?_);refine b8 (some 75) rfl rfl Try.func61 (by kernel_rfl) rfl #[.slice iR eZ.length iZ] rfl bM ?_;(with_reducible refine(eK.calls Wt _ _ eZ false _ ?aD ?aE Yk.1).mono ?_);(case aD=>exact cb ((Kd.gI aI.1).2.2));(case aE=>exact(Kd.gI aI.1).2.1);rintro e w47 ⟨rfl,hb⟩;refine⟨_,rfl,?_⟩;replace aI:=af.mk (Kd.nH (nk aI.1) hb);replace dJ:=af.mk (Kd.bF (rk dJ.1) hb);replace bL:=af.mk (Kd.bF (rk bL.1) hb);replace iU:=af.mk (Kd.bF (rk iU.1) hb);replace HB:=af.mk (aU (bl HB.1) hb);(try clear hb);(try clear bH);(try clear hk);(try clear hi)))
          go_meet
          case rel=>exact⟨_,(true),(by first|rfl|(simp;done)|(simp[*];done)),H',⟨by have:=kr.1;have:=BA.1;first|omega|exact Nat.le_refl _⟩,⟨by refine nk ?_;exact aI.1⟩,⟨rk dJ.1⟩,⟨rk bL.1⟩,⟨rk iU.1⟩,⟨bl HB.1⟩⟩
        case rest=>
         clear YR;(try clear c1);(try clear c2);(try clear p2);(try clear c3);(try clear c4);(try clear c5);(try clear c6);(try clear cA);(try clear kQ);(try clear yy);(try clear FU);(try clear dR);(try clear dA);(try clear fS);(try clear iX);(try clear gC);(try clear iY);(try clear vG);(try clear Ks);(try clear qH);(try clear FX);(try clear Kt);(try clear qb);(try clear FY);(try clear Ku);(try clear nZ);(try clear tg);(try clear qK);(try clear Az);(try clear Kw);(try clear p2);obtain⟨kq,X8,rfl,HA,JP,aI,dJ,bL,iU,HB⟩:=hcut;cases kq with
         |zero=>exact absurd HA.1 (by simp[dw.j2])
         |succ ap1=>
          have H:=HA.1;clear HA;simp only[dw.j2]at H;by_cases qL:X8=true
          ·subst qL;rw[if_pos rfl]at H;obtain rfl:=Option.some.inj H;go_wp2;go_ret;exact⟨by first|rfl|(simp[bg,bh]<;>rfl)|(simp[*,bg,bh]<;>rfl),bl HB.1⟩
          ·replace qL:=Bool.eq_false_iff.mpr qL;subst qL;rw[if_neg (show¬(false=true) by decide)]at H;have H':=af.mk H;clear H;go_wp2;go_loopg [10] ap1 (fun kq v10 w'=> ∃(jP:Int),v10= .int .i64 jP∧af (dw.l0 kq eZ cl nC jE lX jP=some r)∧af (kq≤ap1)∧af (Kd.N gw 41 w' w.heap.size (fun k_=>some k_≠((.slice iQ cl.length iE):Value).ownBlock∧some k_≠(kn:Value).ownBlock∧some k_≠(uR:Value).ownBlock) (.slice iR eZ.length iZ) eZ)∧af (Kd.R (Kd.int .i64) 3 w' w.heap.size (fun k_=>some k_≠(kn:Value).ownBlock) (.slice iQ cl.length iE) cl)∧af (Kd.R (Kd.int .i64) 3 w' w.heap.size (fun k_=>some k_≠((.slice iQ cl.length iE):Value).ownBlock) kn nC)∧af (Kd.R jh 50 w' w.heap.size (fun _=>True) uR lX)∧af (Below w.heap.size w w'));case atStart=>exact⟨(0),(by first|rfl|(simp;done)|(simp[*];done)),H',⟨Nat.le_refl _⟩,⟨by refine nk ?_;exact aI.1⟩,⟨rk dJ.1⟩,⟨rk bL.1⟩,⟨rk iU.1⟩,⟨bl HB.1⟩⟩
           case round=>
            clear H';(try clear c1);(try clear c2);(try clear p2);(try clear c3);(try clear c4);(try clear c5);(try clear c6);(try clear cA);(try clear kQ);(try clear yy);(try clear FU);(try clear dR);(try clear dA);(try clear fS);(try clear iX);(try clear gC);(try clear iY);(try clear vG);(try clear Ks);(try clear qH);(try clear FX);(try clear Kt);(try clear qb);(try clear FY);(try clear Ku);(try clear nZ);(try clear tg);(try clear qK);(try clear Az);(try clear Kw);(try clear qL);(try clear p2);obtain⟨jP,rfl,HA,ow,aI,dJ,bL,iU,HB⟩:=hrel;cases gk with
            |zero=>exact absurd HA.1 (by simp[dw.l0])
            |succ k4=>
             have H:=HA.1;clear HA;simp only[dw.l0]at H;have YS:=af.mk H;clear H
             go_upto_region 14 with(fail)
             go_cut [93] (fun v93 wc=> ∃(kq:Nat) (X9:Bool),v93= .bool X9∧af (dw.j4 kq eZ cl nC jE lX jP X9=some r)∧af (kq≤k4)∧af (Kd.N gw 41 wc w.heap.size (fun k_=>some k_≠((.slice iQ cl.length iE):Value).ownBlock∧some k_≠(kn:Value).ownBlock∧some k_≠(uR:Value).ownBlock) (.slice iR eZ.length iZ) eZ)∧af (Kd.R (Kd.int .i64) 3 wc w.heap.size (fun k_=>some k_≠(kn:Value).ownBlock) (.slice iQ cl.length iE) cl)∧af (Kd.R (Kd.int .i64) 3 wc w.heap.size (fun k_=>some k_≠((.slice iQ cl.length iE):Value).ownBlock) kn nC)∧af (Kd.R jh 50 wc w.heap.size (fun _=>True) uR lX)∧af (Below w.heap.size w wc))
             case first=>
              have H:=YS.1;clear YS;by_cases r6:jP<(cl.length:Int)
              ·rw[if_pos r6]at H;have B8:decide (jP<(cl.length:Int))=true:=decide_eq_true r6;clear r6;(first|rw[B8]|(simp only[cu,cF];rw[B8])|skip);have H':=af.mk H;clear H;go_wp2
               go_meet
               case rel=>exact⟨_,(jE),(by first|rfl|(simp;done)|(simp[*];done)),H',⟨by have:=kr.1;have:=BA.1;have:=JP.1;have:=ow.1;first|omega|exact Nat.le_refl _⟩,⟨by refine nk ?_;exact aI.1⟩,⟨rk dJ.1⟩,⟨rk bL.1⟩,⟨rk iU.1⟩,⟨bl HB.1⟩⟩
              ·rw[if_neg r6]at H;have B8:decide (jP<(cl.length:Int))=false:=decide_eq_false r6;clear r6;(first|rw[B8]|(simp only[cu,cF];rw[B8])|skip);have H':=af.mk H;clear H;go_wp2
               go_meet
               case rel=>exact⟨_,(false),(by first|rfl|(simp;done)|(simp[*];done)),H',⟨by have:=kr.1;have:=BA.1;have:=JP.1;have:=ow.1;first|omega|exact Nat.le_refl _⟩,⟨by refine nk ?_;exact aI.1⟩,⟨rk dJ.1⟩,⟨rk bL.1⟩,⟨rk iU.1⟩,⟨bl HB.1⟩⟩
             case rest=>
              clear YS;(try clear c1);(try clear c2);(try clear p2);(try clear c3);(try clear c4);(try clear c5);(try clear c6);(try clear cA);(try clear kQ);(try clear yy);(try clear FU);(try clear dR);(try clear dA);(try clear fS);(try clear iX);(try clear gC);(try clear iY);(try clear vG);(try clear Ks);(try clear qH);(try clear FX);(try clear Kt);(try clear qb);(try clear FY);(try clear Ku);(try clear nZ);(try clear tg);(try clear qK);(try clear Az);(try clear Kw);(try clear qL);(try clear r6);(try clear B8);(try clear p2);obtain⟨kq,X9,rfl,HA,Ta,aI,dJ,bL,iU,HB⟩:=hcut;cases kq with
              |zero=>exact absurd HA.1 (by simp[dw.j4])
              |succ pH=>
               have H:=HA.1;clear HA;simp only[dw.j4]at H;by_cases NZ:X9=true
               ·subst NZ;rw[if_pos rfl]at H;obtain⟨Bt,Qs⟩: ∃y_:List Int,y_=(([]:List Int)):=⟨_,rfl⟩;(replace H:(if 0≤jP then(if jP≤(cl.length:Int)then((some (cl.take (jP:Int).toNat:List Int)).bind fun tX=>(if Bt.length+tX.length<17592186044416 then((some (Bt++tX:List Int)).bind fun qy=>(if 0≤(wrap64 (jP+1))then(if(wrap64 (jP+1))≤(cl.length:Int)then((some (cl.drop ((wrap64 (jP+1)):Int).toNat:List Int)).bind fun lI=>(if qy.length+lI.length<17592186044416 then((tH.f pH eZ (qy++lI)).bind fun tQ=>(if tQ=true then(dw.l0 pH eZ cl nC jE lX (wrap64 (jP+1)))else(some false)))else(none)))else(none))else(none)))else(none)))else(none))else(none))=some r:=by first|(rw[Qs];with_reducible exact H)|(have aG:=(Option.bind_some _ _).symm.trans H;rw[Qs];with_reducible exact aG)|(have aG:=(Option.bind_some _ _).symm.trans H;with_reducible exact aG)|with_reducible exact H|(rw[Qs];exact H)|exact H);have aiU:=af.mk Qs;clear Qs;by_cases yz:0≤jP
                ·rw[if_pos yz]at H;have akf:=eq_true yz;have axv:decide (0≤jP)=true:=decide_eq_true yz;clear yz;by_cases yA:jP≤(cl.length:Int)
                 ·rw[if_pos yA]at H;have akg:=eq_true yA;have axw:decide (jP≤(cl.length:Int))=true:=decide_eq_true yA;clear yA;obtain⟨tX,Qt⟩: ∃y_:List Int,y_=(cl.take (jP:Int).toNat):=⟨_,rfl⟩;(replace H:(if Bt.length+tX.length<17592186044416 then((some (Bt++tX:List Int)).bind fun qy=>(if 0≤(wrap64 (jP+1))then(if(wrap64 (jP+1))≤(cl.length:Int)then((some (cl.drop ((wrap64 (jP+1)):Int).toNat:List Int)).bind fun lI=>(if qy.length+lI.length<17592186044416 then((tH.f pH eZ (qy++lI)).bind fun tQ=>(if tQ=true then(dw.l0 pH eZ cl nC jE lX (wrap64 (jP+1)))else(some false)))else(none)))else(none))else(none)))else(none))=some r:=by first|(rw[Qt];with_reducible exact H)|(have aG:=(Option.bind_some _ _).symm.trans H;rw[Qt];with_reducible exact aG)|(have aG:=(Option.bind_some _ _).symm.trans H;with_reducible exact aG)|with_reducible exact H|(rw[Qt];exact H)|exact H);have aiV:=af.mk Qt;clear Qt;by_cases N0:Bt.length+tX.length<17592186044416
                  ·rw[if_pos N0]at H;have auY:=af.mk N0;clear N0;obtain⟨qy,Qu⟩: ∃y_:List Int,y_=(Bt++tX):=⟨_,rfl⟩;(replace H:(if 0≤(wrap64 (jP+1))then(if(wrap64 (jP+1))≤(cl.length:Int)then((some (cl.drop ((wrap64 (jP+1)):Int).toNat:List Int)).bind fun lI=>(if qy.length+lI.length<17592186044416 then((tH.f pH eZ (qy++lI)).bind fun tQ=>(if tQ=true then(dw.l0 pH eZ cl nC jE lX (wrap64 (jP+1)))else(some false)))else(none)))else(none))else(none))=some r:=by first|(rw[Qu];with_reducible exact H)|(have aG:=(Option.bind_some _ _).symm.trans H;rw[Qu];with_reducible exact aG)|(have aG:=(Option.bind_some _ _).symm.trans H;with_reducible exact aG)|with_reducible exact H|(rw[Qu];exact H)|exact H);have avN:=af.mk Qu;clear Qu;obtain⟨nK,VF⟩: ∃j_:Int,(wrap64 (jP+1))=j_:=⟨_,rfl⟩;(replace H:(if 0≤(nK)then(if(nK)≤(cl.length:Int)then((some (cl.drop ((nK):Int).toNat:List Int)).bind fun lI=>(if qy.length+lI.length<17592186044416 then((tH.f pH eZ (qy++lI)).bind fun tQ=>(if tQ=true then(dw.l0 pH eZ cl nC jE lX nK)else(some false)))else(none)))else(none))else(none))=some r:=by first|(rw[VF]at H;exact H)|(simp only[VF]at H⊢;exact H));have aOF:(IntKind.i64.wrap (jP+1))=nK:=(cu _).trans VF;by_cases F2:0≤(nK)
                   ·rw[if_pos F2]at H;have axx:=eq_true F2;have axy:decide (0≤(nK))=true:=decide_eq_true F2;clear F2;by_cases F3:(nK)≤(cl.length:Int)
                    ·rw[if_pos F3]at H;have axz:=eq_true F3;have axA:decide ((nK)≤(cl.length:Int))=true:=decide_eq_true F3;clear F3;obtain⟨lI,Qv⟩: ∃y_:List Int,y_=(cl.drop ((nK):Int).toNat):=⟨_,rfl⟩;(replace H:(if qy.length+lI.length<17592186044416 then((tH.f pH eZ (qy++lI)).bind fun tQ=>(if tQ=true then(dw.l0 pH eZ cl nC jE lX nK)else(some false)))else(none))=some r:=by first|(rw[Qv];with_reducible exact H)|(have aG:=(Option.bind_some _ _).symm.trans H;rw[Qv];with_reducible exact aG)|(have aG:=(Option.bind_some _ _).symm.trans H;with_reducible exact aG)|with_reducible exact H|(rw[Qv];exact H)|exact H);have aiW:=af.mk Qv;clear Qv;by_cases yB:qy.length+lI.length<17592186044416
                     ·rw[if_pos yB]at H;have Zs:=af.mk yB;clear yB;obtain⟨agA,Qw⟩: ∃y_:List Int,y_=(qy++lI):=⟨_,rfl⟩;(replace H:((tH.f pH eZ agA).bind fun tQ=>(if tQ=true then(dw.l0 pH eZ cl nC jE lX nK)else(some false)))=some r:=by first|(rw[Qw];with_reducible exact H)|(have aG:=(Option.bind_some _ _).symm.trans H;rw[Qw];with_reducible exact aG)|(have aG:=(Option.bind_some _ _).symm.trans H;with_reducible exact aG)|with_reducible exact H|(rw[Qw];exact H)|exact H);have avO:=af.mk Qw;clear Qw;replace H:=Option.bind_eq_some_iff.mp H;obtain⟨tQ,ag3,H⟩:=H;(try dsimp only at H);have A59:=af.mk ag3;clear ag3;by_cases N1:tQ=true
                      ·subst N1;rw[if_pos rfl]at H;have H':=af.mk H;clear H;(try go_wp2);replace aI:=af.mk (Kd.ZJ aI.1);replace dJ:=af.mk (Kd.iD dJ.1);replace bL:=af.mk (Kd.iD bL.1);replace iU:=af.mk (Kd.iD iU.1);replace HB:=af.mk (fT HB.1);have RX:(jP:Int)≤((cl.length:Int):Int):=of_decide_eq_true au;obtain⟨aR6,aoe,_,aDu,_⟩:=info_parts info3;have apf:cl.length≤iE:=(Kd.bC dJ.1).2.1;have alI:Kd.F (Kd.int .i64) _ _ iQ cl.length cl:=(Kd.DN (base:=w.heap.size) (Kd.TB (Kd.lC (Kd.lC (dJ.1) (Kd.wL aI.1) (by decide)) (Kd.kM iU.1) (by decide)))).2.2;have aAc:=aa3 (P:=Try.prog) 38 3 .i64 Try.underlying38 aoe iQ cl.length iE jP (of_decide_eq_true au) RX apf;have adI:=Kd.ahl (m:=(jP:Int).toNat) alI (by omega);have aem:tX.length=(jP:Int).toNat:=(by rw[aiV.1,List.length_take];omega);rw[←aiV.1]at adI;rw[←aem]at aAc;have Ag:=af.mk (show Kd.V (Kd.int .i64) 3 _ w.heap.size _ (.slice iQ tX.length iE) tX from Kd.Av (by omega) adI);have aIV:=af.mk (show tX.length≤iE from by omega);clear adI alI apf aoe aDu;have aJa:=af.mk aem;clear aem;replace RX:=eq_true RX;have RY:((nK):Int)≤((cl.length:Int):Int):=of_decide_eq_true au;obtain⟨aR7,aof,_,apo,_⟩:=info_parts info3;have VO:cl.length≤iE:=(Kd.bC dJ.1).2.1;have alJ:Kd.F (Kd.int .i64) _ _ iQ cl.length cl:=(Kd.DN (base:=w.heap.size) (Kd.TB (Kd.lC (Kd.lC (dJ.1) (Kd.wL aI.1) (by decide)) (Kd.kM iU.1) (by decide)))).2.2;have aqD:(0:Int)≤((nK):Int):=of_decide_eq_true au;have aAd:=Ul (P:=Try.prog) 38 3 .i64 Try.underlying38 aof 1 apo iQ cl.length iE (nK) aqD RY
                       have PI:=Kd.ahi (m:=((nK):Int).toNat) (c:=iE) alJ (by omega) VO;obtain⟨A63,UC⟩: ∃A1,A1=(if iE=((nK):Int).toNat then iQ else(iQ:Option Addr).map (·.add (((nK):Int).toNat*1))):=⟨_,rfl⟩;obtain⟨TX,UF⟩: ∃c1,c1=iE-((nK):Int).toNat:=⟨_,rfl⟩;have Re:lI.length=cl.length-((nK):Int).toNat:=(by rw[aiW.1,List.length_drop]<;>omega);rw[show(cl).drop ((nK):Int).toNat=lI from aiW.1.symm]at PI;replace PI:Kd.F (Kd.int .i64) _ _ A63 lI.length lI:=(by rw[UC];exact PI);rw[←Re,←UC,←UF]at aAd;have Ah:=af.mk (show Kd.V (Kd.int .i64) 3 _ w.heap.size _ (.slice A63 lI.length TX) lI from Kd.Av (by rw[Re,UF];exact Nat.sub_le_sub_right VO _) PI);have aIW:=af.mk (show lI.length≤TX from by rw[Re,UF];exact Nat.sub_le_sub_right VO _);clear PI alJ VO aof apo UF;have aJb:=af.mk Re;have aI7:=af.mk UC;clear Re UC;replace RY:=eq_true RY;refine kF (n:=13) (S:=fun w'=>True) (ds:= []) #[false,false,false,false,false,false,false,false,false,false,false,false,false] (by kernel_rfl) rfl rfl trivial (fun hHeld=>?_);refine k8 dw.af3 dw.aag (fun ak dn=>?_);generalize wc.drew=w61 at aI dJ bL iU HB Ag Ah hHeld⊢;refine aW (i:=0) (N:=some 96) ak.1 ?_;refine aW (i:=2) (N:=some 98) ak.1 ?_;refine aW (i:=3) (N:=some 99) ak.1 ?_;refine aW (i:=4) (N:=some 100) ak.1 ?_;refine aW (i:=6) (N:=some 102) ak.1 ?_;refine aW (i:=7) (N:=some 103) ak.1 ?_;refine aW (i:=8) (N:=some 104) ak.1 ?_;refine aW (i:=9) (N:=some 105) ak.1 ?_;refine gf (i:=1) (N:=some 97) ak.1 (fun K hK=>?_)
                       refine Kd.xZ (Kd.int .i64) _ 3 ?hg (N:=97) ?hd (xs:=([]:List Int)) (inner:= []) (ok:=fun _=>True) (cV:=fun _=>True) ?hr ?hp (fun _ hk=>hk) trivial (Below.refl _ _) (Nat.le_refl _) (by simp) ?_;(case hd=>rfl);(case hg=>rfl);(case hr=>first|(go_simp;done)|(go_simp;rfl));(case hp=>exact(bU.none _ _));intro aGA w64 AU hb dN dO;clear dN dO;(first|rw[←aiU.1]at AU|(simp only[Int.reduceToNat]at AU;rw[←aiU.1]at AU));replace aI:=af.mk (Kd.DI (nk aI.1) (Kd.dr AU) hb);replace iU:=af.mk (Kd.bF (rk iU.1) hb);replace Ag:=af.mk (Kd.wP (by(with_reducible repeat (first|apply Kd.gL|apply Kd.gM|apply Kd.gB));exact Ag.1) (Kd.dr AU) hb);replace Ah:=af.mk (Kd.wP (by(with_reducible repeat (first|apply Kd.gL|apply Kd.gM|apply Kd.gB));exact Ah.1) (Kd.dr AU) hb);have Y1:=af.mk (Kd.cv (Kd.gm (Kd.gm AU (Kd.dV (rk dJ.1))) (Kd.dV (rk bL.1))) (bY (bl HB.1)));replace dJ:=af.mk (Kd.gl (rk dJ.1) (Kd.dr AU) hb);replace bL:=af.mk (Kd.gl (rk bL.1) (Kd.dr AU) hb);replace HB:=af.mk (aU (bl HB.1) hb);clear hb AU;refine hK.out _ _ trivial (fun hHeld=>?_);clear hK K;refine eN (a':=?_) ?_ ?_;rotate_left
                       ·show Act.put _ (some 97) _=_;simp only[Act.put,List.setIfInBounds_toArray,List.set_cons_zero,List.set_cons_succ,cu,cF];rfl
                       refine gf (i:=5) (N:=some 101) ak.1 (fun K hK=>?_);refine Kd.BV (Kd.int .i64) (w0:=w) w.heap.size (by rfl) (.tmp 97) (.tmp 100) 38 3 (.int .i64 0) 8 rfl Try.underlying38 info3 rfl (by decide) (by omega) aGA Bt tX _ _ _ (fun k_=>some k_≠(.slice iQ cl.length iE:Value).ownBlock∧some k_≠(kn:Value).ownBlock) (fun _=>False) rfl rfl ?aO ?aR (fun _ _ h=>h) (fun _ h=>h.elim) ?aF ?aB ?aS ?aL ?_;(case aR=>exact cb ((Kd.vz Ag.1).2.2));(case aB=>exact(bl HB.1));(case aF=>exact(fun k_ hk=>⟨Kd.fresh' (Kd.dV (rk dJ.1)) k_ hk,Kd.fresh' (Kd.dV (rk bL.1)) k_ hk⟩));(case aO=>exact(by refine rk ?_;exact Kd.aK Y1.1 (fun _ hk=>⟨hk.1.2,hk.2⟩)));(case aS=>exact(bY (bl HB.1)));(case aL=>have:=auY.1;omega);intro aGB Mp ho hb hg hat;rw[←avN.1]at ho;replace aI:=af.mk (Kd.aiF (ok:=(fun k_=>some k_≠(.slice iQ cl.length iE:Value).ownBlock∧some k_≠(kn:Value).ownBlock∧some k_≠(uR:Value).ownBlock)) (nk aI.1) hg hat);replace dJ:=af.mk (Kd.rU (ok:=(fun k_=>some k_≠(kn:Value).ownBlock)) (rk dJ.1) hg hat);replace bL:=af.mk (Kd.rU (ok:=(fun k_=>some k_≠(.slice iQ cl.length iE:Value).ownBlock)) (rk bL.1) hg hat);replace iU:=af.mk (Kd.oA (rk iU.1) (Kd.kM (rk Y1.1)) (by decide) hg);replace Ag:=af.mk (Kd.Kj (ok:=(fun k_=>some k_≠(.slice iR eZ.length iZ:Value).ownBlock∧some k_≠(kn:Value).ownBlock∧some k_≠(uR:Value).ownBlock)) (by(with_reducible repeat (first|apply Kd.gL|apply Kd.gM|apply Kd.gB));exact Kd.iL Ag.1 (fun _ hk=>⟨⟨hk.1.1.2,⟨hk.1.1.1,hk.1.2⟩⟩,hk.2⟩)) hg hat)
                       replace Ah:=af.mk (Kd.Kj (ok:=(fun k_=>some k_≠(.slice iR eZ.length iZ:Value).ownBlock∧some k_≠(kn:Value).ownBlock∧some k_≠(uR:Value).ownBlock)) (by(with_reducible repeat (first|apply Kd.gL|apply Kd.gM|apply Kd.gB));exact Kd.iL Ah.1 (fun _ hk=>⟨⟨hk.1.1.2,⟨hk.1.1.1,hk.1.2⟩⟩,hk.2⟩)) hg hat);replace HB:=af.mk (hb);have Y2:=af.mk (ho);clear Y1;clear ho hb hg hat;refine hK.out _ _ trivial (fun hHeld=>?_);clear hK K;refine eN (a':=?_) ?_ ?_;rotate_left
                       ·show Act.put _ (some 101) _=_;simp only[Act.put,List.setIfInBounds_toArray,List.set_cons_zero,List.set_cons_succ,cu,cF];rfl
                       refine gf (i:=10) (N:=some 106) ak.1 (fun K hK=>?_);refine Kd.BV (Kd.int .i64) (w0:=w) w.heap.size (by rfl) (.tmp 101) (.tmp 105) 38 3 (.int .i64 0) 8 rfl Try.underlying38 info3 rfl (by decide) (by omega) aGB qy lI _ _ _ (fun k_=>some k_≠(.slice iQ cl.length iE:Value).ownBlock∧some k_≠(kn:Value).ownBlock) (fun _=>False) rfl rfl ?aO ?aR (fun _ _ h=>h) (fun _ h=>h.elim) ?aF ?aB ?aS ?aL ?_;(case aR=>exact cb ((Kd.vz Ah.1).2.2));(case aB=>exact(bl HB.1));(case aF=>exact(fun k_ hk=>⟨Kd.fresh' (Kd.dV (rk dJ.1)) k_ hk,Kd.fresh' (Kd.dV (rk bL.1)) k_ hk⟩));(case aO=>exact(rk Y2.1));(case aS=>exact(bY (bl HB.1)));(case aL=>have:=Zs.1;omega);intro aTj Mq ho hb hg hat;rw[←avO.1]at ho;replace aI:=af.mk (Kd.aiF (ok:=(fun k_=>some k_≠(.slice iQ cl.length iE:Value).ownBlock∧some k_≠(kn:Value).ownBlock∧some k_≠(uR:Value).ownBlock)) (nk aI.1) hg hat);replace dJ:=af.mk (Kd.rU (ok:=(fun k_=>some k_≠(kn:Value).ownBlock)) (rk dJ.1) hg hat);replace bL:=af.mk (Kd.rU (ok:=(fun k_=>some k_≠(.slice iQ cl.length iE:Value).ownBlock)) (rk bL.1) hg hat);replace iU:=af.mk (Kd.oA (rk iU.1) (Kd.kM (rk Y2.1)) (by decide) hg);replace Ag:=af.mk (Kd.Kj (ok:=(fun k_=>some k_≠(.slice iR eZ.length iZ:Value).ownBlock∧some k_≠(kn:Value).ownBlock∧some k_≠(uR:Value).ownBlock)) (by(with_reducible repeat (first|apply Kd.gL|apply Kd.gM|apply Kd.gB));exact Ag.1) hg hat)
                       replace Ah:=af.mk (Kd.Kj (ok:=(fun k_=>some k_≠(.slice iR eZ.length iZ:Value).ownBlock∧some k_≠(kn:Value).ownBlock∧some k_≠(uR:Value).ownBlock)) (by(with_reducible repeat (first|apply Kd.gL|apply Kd.gM|apply Kd.gB));exact Ah.1) hg hat);replace HB:=af.mk (hb);have Nc:=af.mk (ho);clear Y2;clear ho hb hg hat;obtain⟨wB,wX,AH⟩:=Kd.bS Nc.1;(first|subst AH|(injection AH with cL ek cM;have ep:=cL.symm;have eu:=cM.symm;clear cL ek cM;subst ep;subst eu));refine hK.out _ _ trivial (fun hHeld=>?_);clear hK K;refine eN (a':=?_) ?_ ?_;rotate_left
                       ·show Act.put _ (some 106) _=_;simp only[Act.put,List.setIfInBounds_toArray,List.set_cons_zero,List.set_cons_succ,cu,cF];rfl
                       refine gf (i:=11) (N:=some 107) ak.1 (fun K hK=>?_);refine lG Try.func44 (by kernel_rfl) rfl #[.slice iR eZ.length iZ,.slice wB agA.length wX] (by rfl) rfl rfl bM ?_;(with_reducible refine(tH.calls pH _ _ eZ _ _ agA true _ ?aD ?aE ?bZ ?b9 A59.1).mono ?_);(case aD=>exact cb ((Kd.gI aI.1).2.2));(case aE=>exact(Kd.gI aI.1).2.1);(case bZ=>exact cb ((Kd.bC Nc.1).2.2));(case b9=>exact(Kd.bC Nc.1).2.1);rintro e Bl ⟨rfl,hb⟩;refine⟨_,rfl,?_⟩;replace aI:=af.mk (Kd.nH (nk aI.1) hb);replace dJ:=af.mk (Kd.bF (rk dJ.1) hb);replace bL:=af.mk (Kd.bF (rk bL.1) hb);replace iU:=af.mk (Kd.bF (rk iU.1) hb);replace Ag:=af.mk (Kd.wO (by(with_reducible repeat (first|apply Kd.gL|apply Kd.gM|apply Kd.gB));exact Ag.1) hb);replace Ah:=af.mk (Kd.wO (by(with_reducible repeat (first|apply Kd.gL|apply Kd.gM|apply Kd.gB));exact Ah.1) hb);replace Nc:=af.mk (Kd.bF (rk Nc.1) hb);replace HB:=af.mk (aU (bl HB.1) hb);(try clear hb);(try clear bH);(try clear hk);(try clear hi);refine hK.out _ _ trivial (fun hHeld=>?_);clear hK K;refine eN (a':=?_) ?_ ?_;rotate_left
                       ·show Act.put _ (some 107) _=_;simp only[Act.put,List.setIfInBounds_toArray,List.set_cons_zero,List.set_cons_succ,cu,cF];rfl
                       refine aW (i:=12) (N:=some 108) ak.1 ?_;refine kA (kX ak.1 (by kernel_rfl)) ?_;(try go_wp2);go_roundg pH;case measure=>have:=kr.1;have:=BA.1;have:=JP.1;have:=ow.1;have:=Ta.1;omega
                       case rel=>exact⟨(nK),(by first|rfl|(simp;done)|(simp only[←VF]<;>(first|rfl|simp))|(simp[*];done)),H',⟨by have:=kr.1;have:=BA.1;have:=JP.1;have:=ow.1;have:=Ta.1;omega⟩,⟨by refine nk ?_;exact Kd.fD aI.1 (fun _ hk=>⟨hk.1.1,⟨hk.1.2.1,hk.1.2.2⟩⟩)⟩,⟨by refine rk ?_;exact Kd.aK dJ.1 (fun _ hk=>hk.1)⟩,⟨by refine rk ?_;exact Kd.aK bL.1 (fun _ hk=>hk.1)⟩,⟨rk iU.1⟩,⟨bl HB.1⟩⟩
                      ·replace N1:=Bool.eq_false_iff.mpr N1;subst N1;rw[if_neg (show¬(false=true) by decide)]at H;exact absurd (Option.some.inj H) (by rw[VM.1];decide)
                     ·rw[if_neg yB]at H;exact absurd H (by simp)
                    ·rw[if_neg F3]at H;exact absurd H (by simp)
                   ·rw[if_neg F2]at H;exact absurd H (by simp)
                  ·rw[if_neg N0]at H;exact absurd H (by simp)
                 ·rw[if_neg yA]at H;exact absurd H (by simp)
                ·rw[if_neg yz]at H;exact absurd H (by simp)
               ·replace NZ:=Bool.eq_false_iff.mpr NZ;subst NZ;rw[if_neg (show¬(false=true) by decide)]at H;obtain⟨SM,Qx⟩: ∃y_:List Int,y_=(([]:List Int)):=⟨_,rfl⟩;(replace H:((hU.f pH lX cl SM).bind fun sy=>(dw.l1 pH cl nC jE sy 0))=some r:=by first|(rw[Qx];with_reducible exact H)|(have aG:=(Option.bind_some _ _).symm.trans H;rw[Qx];with_reducible exact aG)|(have aG:=(Option.bind_some _ _).symm.trans H;with_reducible exact aG)|with_reducible exact H|(rw[Qx];exact H)|exact H);have aiX:=af.mk Qx;clear Qx;replace H:=Option.bind_eq_some_iff.mp H;obtain⟨sy,ag7,H⟩:=H;(try dsimp only at H);have EX:=af.mk ag7;clear ag7;have H':=af.mk H;clear H
                go_wp2_with (first|((with_reducible refine bW (N:=111) rfl ?_);(try(refine azB (by rfl) ?_;dsimp only));refine Kd.lO (Kd.int .i64) _ 3 ?hg (N:=111) ?hd (xs:=([]:List Int)) (inner:= []) (ok:=fun _=>True) (cV:=fun _=>True) ?hr ?hp (fun _ hk=>hk) trivial (Below.refl _ _) (Nat.le_refl _) (by simp) ?_;(case hd=>rfl);(case hg=>rfl);(case hr=>first|(go_simp;done)|(go_simp;rfl));(case hp=>exact(bU.none _ _));intro aTk w71 Ek hb dN dO;clear dN dO;(first|rw[←aiX.1]at Ek|(simp only[Int.reduceToNat]at Ek;rw[←aiX.1]at Ek));replace aI:=af.mk (Kd.DI (nk aI.1) (Kd.dr Ek) hb);replace iU:=af.mk (Kd.bF (rk iU.1) hb);have Nd:=af.mk (Kd.cv (Kd.gm (Kd.gm Ek (Kd.dV (rk dJ.1))) (Kd.dV (rk bL.1))) (bY (bl HB.1)));replace dJ:=af.mk (Kd.gl (rk dJ.1) (Kd.dr Ek) hb);replace bL:=af.mk (Kd.gl (rk bL.1) (Kd.dr Ek) hb);replace HB:=af.mk (aU (bl HB.1) hb);clear hb Ek;obtain⟨ahd,akn,azg⟩:=Kd.bS iU.1;subst azg;obtain⟨Yw,aa0,azh⟩:=Kd.bS Nd.1;subst azh)|((with_reducible refine b5 (f:=66) rfl ?_);refine b8 (some 112) rfl rfl Try.func66 (by kernel_rfl) rfl #[.slice ahd lX.length akn,.slice iQ cl.length iE,.slice Yw SM.length aa0] rfl bM ?_;(with_reducible refine(hU.calls pH _ _ lX _ _ cl (fun k_=>some k_=(.slice Yw SM.length aa0:Value).ownBlock) (.slice Yw SM.length aa0) SM sy w _ ?aD ?aE ?bZ ?b9 ?vX ?R5 EX.1).mono ?_);(case aD=>repeat (first|(with_reducible first|exact HB.1|apply jr|apply gG|apply fT)|exact HB.1));(case aE=>exact Kd.ahf ((Kd.lC iU.1 (Kd.kM Nd.1) (by decide))) (fun k_ cB hs_=>(cB.2) hs_));(case bZ=>exact(Kd.bC iU.1).2.1);(case b9=>exact Kd.ahf (dJ.1) (fun k_ cB hs_=>(cB.2) hs_));(case vX=>exact(Kd.bC dJ.1).2.1);(case R5=>exact Kd.rV rfl Nd.1);rintro e w75 ⟨Mm,rfl,aV,hb,hkp⟩;refine⟨_,rfl,?_⟩;replace aI:=af.mk (Kd.fD (ok':=fun k_=>some k_≠(.slice iQ cl.length iE:Value).ownBlock∧some k_≠(kn:Value).ownBlock∧some k_≠(.slice ahd lX.length akn:Value).ownBlock∧some k_≠(Mm:Value).ownBlock) (Kd.avt (aI.1) hkp (fun k_ cB hs_=>(cB.2) hs_)) (fun k_ cB=>⟨cB.1.1.1,cB.1.1.2.1,cB.1.1.2.2,fun e_=>Or.elim (aV.1 k_ e_.symm) (fun hs_=>cB.2.1 hs_) (fun mB=>Nat.not_le.2 cB.2.2 mB)⟩));replace iU:=af.mk (Kd.aK (ok':=fun k_=>True) (Kd.Kb ((Kd.lC iU.1 (Kd.kM Nd.1) (by decide))) hkp (fun k_ cB hs_=>(cB.2) hs_)) (fun k_ cB=>trivial));have aun:=af.mk (Kd.aK (ok':=fun k_=>some k_≠(.slice iQ cl.length iE:Value).ownBlock∧some k_≠(kn:Value).ownBlock) aV (fun k_ cB=>⟨Or.elim cB (fun hs_=>fun e_=>(((dJ.1).1 k_ e_.symm).2) hs_) (fun mB=>(Kd.fresh' (Kd.dV (rk dJ.1)) k_ mB)),Or.elim cB (fun hs_=>fun e_=>(((bL.1).1 k_ e_.symm).2) hs_) (fun mB=>(Kd.fresh' (Kd.dV (rk bL.1)) k_ mB))⟩));replace dJ:=af.mk (Kd.aK (ok':=fun k_=>some k_≠(kn:Value).ownBlock∧some k_≠(Mm:Value).ownBlock) (Kd.Kb (dJ.1) hkp (fun k_ cB hs_=>(cB.2) hs_)) (fun k_ cB=>⟨cB.1.1,fun e_=>Or.elim (aV.1 k_ e_.symm) (fun hs_=>cB.2.1 hs_) (fun mB=>Nat.not_le.2 cB.2.2 mB)⟩));replace bL:=af.mk (Kd.aK (ok':=fun k_=>some k_≠(.slice iQ cl.length iE:Value).ownBlock∧some k_≠(Mm:Value).ownBlock) (Kd.Kb (bL.1) hkp (fun k_ cB hs_=>(cB.2) hs_)) (fun k_ cB=>⟨cB.1.1,fun e_=>Or.elim (aV.1 k_ e_.symm) (fun hs_=>cB.2.1 hs_) (fun mB=>Nat.not_le.2 cB.2.2 mB)⟩));replace HB:=af.mk (hb);clear Nd;(try clear hb);(try clear hkp);(try clear aV)))
                go_loopg [12] pH (fun kq v12 w'=> ∃(qv:Int),v12= .int .i64 qv∧af (dw.l1 kq cl nC jE sy qv=some r)∧af (kq≤pH)∧af (Kd.R (Kd.int .i64) 3 w' w.heap.size (fun k_=>some k_≠(kn:Value).ownBlock∧some k_≠(Mm:Value).ownBlock) (.slice iQ cl.length iE) cl)∧af (Kd.R (Kd.int .i64) 3 w' w.heap.size (fun k_=>some k_≠((.slice iQ cl.length iE):Value).ownBlock∧some k_≠(Mm:Value).ownBlock) kn nC)∧af (Kd.R (Kd.int .i64) 3 w' w.heap.size (fun k_=>some k_≠((.slice iQ cl.length iE):Value).ownBlock∧some k_≠(kn:Value).ownBlock) Mm sy)∧af (Below w.heap.size w w'));case atStart=>exact⟨(0),(by first|rfl|(simp;done)|(simp[*];done)),H',⟨Nat.le_refl _⟩,⟨rk dJ.1⟩,⟨rk bL.1⟩,⟨rk aun.1⟩,⟨bl HB.1⟩⟩
                case round=>
                 clear H';(try clear c1);(try clear c2);(try clear p2);(try clear c3);(try clear c4);(try clear c5);(try clear c6);(try clear p6);(try clear q6);(try clear cA);(try clear kQ);(try clear yy);(try clear FU);(try clear dR);(try clear dA);(try clear fS);(try clear iX);(try clear gC);(try clear iY);(try clear vG);(try clear Ks);(try clear qH);(try clear FX);(try clear Kt);(try clear qb);(try clear FY);(try clear Ku);(try clear nZ);(try clear tg);(try clear qK);(try clear Az);(try clear Kw);(try clear c44);(try clear qL);(try clear r6);(try clear B8);(try clear NZ);(try clear yz);(try clear akf);(try clear axv);(try clear yA);(try clear akg);(try clear axw);(try clear N0);(try clear F2);(try clear axx);(try clear axy);(try clear F3);(try clear axz);(try clear axA);(try clear yB);(try clear N1);(try clear c61);(try clear RX);(try clear TX);(try clear RY);(try clear p64);(try clear c66);(try clear p2);(try clear aqD);(try clear RX);(try clear RY);obtain⟨qv,rfl,HA,HK6,dJ,bL,g8,HB⟩:=hrel;cases gk with
                 |zero=>exact absurd HA.1 (by simp[dw.l1])
                 |succ k6=>
                  have H:=HA.1;clear HA;simp only[dw.l1]at H;by_cases KA:qv<(cl.length:Int)
                  ·rw[if_pos KA]at H;have axF:decide (qv<(cl.length:Int))=true:=decide_eq_true KA;clear KA;by_cases Ca:0≤qv
                   ·rw[if_pos Ca]at H;have aJJ:decide (0≤qv)=true:=decide_eq_true Ca;clear Ca;by_cases KB:(rd cl qv)<1
                    ·rw[if_pos KB]at H;have axG:decide ((rd cl qv)<1)=true:=decide_eq_true KB;clear KB;obtain rfl:=Option.some.inj H;have HW:0≤(qv:Int):=of_decide_eq_true au;have IC:qv<(cl.length:Int):=of_decide_eq_true au;obtain⟨awK,abi,aDD⟩:=Kd.dF (Kd.bC dJ.1).2.2 qv HW IC;cases abi;replace HW:=eq_true HW;replace IC:=eq_true IC;go_wp2;go_ret;exact⟨by first|rfl|(simp[bg,bh]<;>rfl)|(simp[*,bg,bh]<;>rfl),bl HB.1⟩
                    ·rw[if_neg KB]at H;have axG:decide ((rd cl qv)<1)=false:=decide_eq_false KB;clear KB;have H':=af.mk H;clear H;have HW:0≤(qv:Int):=of_decide_eq_true au;have IC:qv<(cl.length:Int):=of_decide_eq_true au;obtain⟨awK,abi,aDD⟩:=Kd.dF (Kd.bC dJ.1).2.2 qv HW IC;cases abi;replace HW:=eq_true HW;replace IC:=eq_true IC;go_wp2;go_roundg k6;case measure=>have:=kr.1;have:=BA.1;have:=JP.1;have:=ow.1;have:=Ta.1;have:=HK6.1;omega
                     case rel=>exact⟨(wrap64 (qv+1)),(by first|rfl|(simp;done)|(simp[*];done)),H',⟨by have:=kr.1;have:=BA.1;have:=JP.1;have:=ow.1;have:=Ta.1;have:=HK6.1;omega⟩,⟨rk dJ.1⟩,⟨rk bL.1⟩,⟨rk g8.1⟩,⟨bl HB.1⟩⟩
                   ·rw[if_neg Ca]at H;exact absurd H (by simp)
                  ·rw[if_neg KA]at H;have axF:decide (qv<(cl.length:Int))=false:=decide_eq_false KA;clear KA;by_cases yC:(jE==((sy.length:Int)==(cl.length:Int)))=true
                   ·rw[if_pos yC]at H;have axH:(jE==((sy.length:Int)==(cl.length:Int)))=true:=yC;(try(have axI:decide (jE=((sy.length:Int)==(cl.length:Int)))=true:=by simpa using yC));(try(have axJ:(jE==((sy.length:Int)==(cl.length:Int)))=true:=by simpa using yC));clear yC;by_cases T2:jE=true
                    ·subst T2;rw[if_pos rfl]at H;replace H:=Option.bind_eq_some_iff.mp H;obtain⟨afQ,ag9,H⟩:=H;(try dsimp only at H);have A81:=af.mk ag9;clear ag9;obtain rfl:=Option.some.inj H;obtain⟨aHI,aKh,azk⟩:=Kd.bS g8.1;subst azk;obtain⟨aHJ,aKi,azl⟩:=Kd.bS bL.1;subst azl;go_wp2_with (first|(go_at_call 65;(with_reducible refine(oL.calls k6 _ _ sy _ _ nC afQ _ ?aD ?aE ?bZ ?b9 A81.1).mono ?_);(case aD=>exact cb ((Kd.bC g8.1).2.2));(case aE=>exact(Kd.bC g8.1).2.1);(case bZ=>exact cb ((Kd.bC bL.1).2.2));(case b9=>exact(Kd.bC bL.1).2.1);rintro e w' ⟨rfl,⟨nd,rfl⟩⟩));go_ret;exact⟨by first|rfl|(simp[bg,bh]<;>rfl)|(simp[*,bg,bh]<;>rfl),bl HB.1⟩
                    ·replace T2:=Bool.eq_false_iff.mpr T2;subst T2;rw[if_neg (show¬(false=true) by decide)]at H;obtain rfl:=Option.some.inj H;obtain⟨sN,tj,Oq⟩:=Kd.bS g8.1;subst Oq;go_wp2;go_ret;exact⟨by first|rfl|(simp[bg,bh]<;>rfl)|(simp[*,bg,bh]<;>rfl),bl HB.1⟩
                   ·rw[if_neg yC]at H;(have axH:(jE==((sy.length:Int)==(cl.length:Int)))=false:=by simpa using yC);(try(have axI:decide (jE=((sy.length:Int)==(cl.length:Int)))=false:=by simpa using yC));(try(have axJ:(jE==((sy.length:Int)==(cl.length:Int)))=false:=by simpa using yC));(try(have aJK: ¬(jE=((sy.length:Int)==(cl.length:Int))):=by simpa using yC));clear yC;exact absurd (Option.some.inj H) (by rw[VM.1];decide)
end Go.Proofs.Ytbpjidekjogfeaa.A
namespace Go.Proofs.Ytbpjidekjogfeaa.A
open Go.ChangeShapes Go.WideShapes Go.ChangeAt Go.RowKit Go.Proofs.YtbpjidekjogfeaaW.cK Go.Proofs.YtbpjidekjogfeaaW.dP
set_option linter.unusedVariables false
set_option linter.unusedSimpArgs false
def J9{α:Type}(P:Program)(t:TypeId)(d:Kd α)(ok:α→Prop):Prop:=
 ∀{H:Type} {enc:TypeId×Value→H} (w:World) (fuel:Nat) (cs:List Value) (x:DataW H×List MemPlace),
  DataW.trod enc P w 0 (fun _=>true) true fuel t cs=some x→ ∃a,d.K w a cs∧ok a
theorem aEw{P:Program}{t:TypeId}{k:IntKind}(ht:P.underlying t=some (.int k)):J9 P t (Kd.int k) (fun a=>(Lit.int k a).wf=true):=by
 intro H enc w fuel cs x h;obtain⟨n,rfl,_,hw⟩:=DataW.trod_int ht h;exact⟨n,rfl,hw⟩
theorem awY(a:Addr)(i j:Nat):(a.add i).add j=a.add (i+j):=by
 unfold Addr.add;by_cases hi:i=0
 ·subst hi;simp
 ·by_cases hj:j=0
  ·subst hj;simp
  ·rw[if_neg hi,if_neg hj,if_neg (by omega)];simp;omega
theorem axR{w:World}{base:Nat}{a:Addr}{n:Nat}{cs:List Value}(h:w.cells? base a n=some cs):cs.length=n∧ ∀i u,cs[i]? =some u→w.cell? (a.add i)=some u:=by
 unfold World.cells? at h;split at h
 ·have l:=mapM_some_length h;simp only[List.length_range]at l;refine⟨l,fun i u hu=>?_⟩;have hi:=(List.getElem?_eq_some_iff.1 hu).1;have:=mapM_some_get h i i (by simp[show i<n by omega]);rw[this];exact hu
 ·cases h
theorem axS{α:Type}{Q:Nat→α→Prop}(m:Nat)(h: ∀i,i<m→ ∃v,Q i v): ∃l:List α,l.length=m∧ ∀i v,l[i]? =some v→Q i v:=by
 induction m with
 |zero=>exact⟨[],rfl,fun i v hv=>by simp at hv⟩
 |succ m ih=>
  obtain⟨l,hl,hq⟩:=ih (fun i hi=>h i (by omega));obtain⟨v,hv⟩:=h m (by omega);refine⟨l++ [v],by simp[hl],fun i u hu=>?_⟩;rcases Nat.lt_trichotomy i m with hi|hi|hi
  ·rw[List.getElem?_append_left (by omega)]at hu;exact hq i u hu
  ·subst hi;rw[List.getElem?_append_right (by omega),hl,Nat.sub_self]at hu;(have:v=u:=by simpa using hu);exact this▸hv
  ·rw[List.getElem?_eq_none (by simp;omega)]at hu;cases hu
theorem aEx{α:Type}{P:Program}{t e:TypeId}{d:Kd α}{ok:α→Prop}(ht:P.underlying t=some (.slice e))(hs:P.cellsOf e=d.sz)(ho:J9 P e d ok):
  J9 P t (Kd.slice e d) (fun l=>l.length≤maxLen∧ ∀x ∈ l,ok x):=by
 intro H enc w fuel cs x h;rcases DataW.trod_slice ht h with⟨rfl,_⟩|⟨a,len,cap,elems,rest,n,_,rfl,_,_,hl,hm,hlen,hel,_,_⟩
 ·exact⟨[],⟨none,0,rfl,Nat.le_refl _,rfl,Nat.zero_le _,fun h=>absurd h (by simp)⟩,by simp,by simp⟩
 ·have each: ∀i,i<len→ ∃v,ok v∧ ∃c,c.length=d.sz∧d.K w v c∧ ∀j u,c[j]? =some u→w.cell? (a.add (i*d.sz+j))=some u:=by
   intro i hi;have h1:=hel i hi;rw[List.getElem?_eq_getElem (by omega)]at h1;obtain⟨c,hc,hr⟩:=Option.bind_eq_some_iff.1 h1;obtain⟨v,hk,hv⟩:=ho w n c _ hr;obtain⟨_,hcell⟩:=axR hc;refine⟨v,hv,c,d.l9 hk,hk,fun j u hu=>?_⟩;have:=hcell j u hu;rw[hs,awY]at this;exact this
  obtain⟨l,VH,hq⟩:=axS len each;subst VH;have hm':l.length≤maxLen:=Nat.le_trans hl hm;refine⟨l,⟨some a,cap,rfl,hl,rfl,by unfold maxLen at hm';omega,fun _=>⟨a,rfl,fun j p hp=>?_⟩⟩,hm',fun v hv=>?_⟩
  ·obtain⟨_,c,h1,h2,h3⟩:=hq j p hp;exact⟨c,h1,h2,h3⟩
  ·obtain⟨i,hi,rfl⟩:=List.getElem_of_mem hv;exact(hq i _ (List.getElem?_eq_getElem hi)).1
theorem aEy{α:Type}{H:Type}{enc:TypeId×Value→H}{P:Program}{w:World}{t:TypeId}{d:Kd α}{ok:α→Prop}{v:Value}{x:DataW H}{ps:List MemPlace}(ho:J9 P t d ok)
  (h:DataW.Trod enc P w 0 (fun _=>true) true t v x ps): ∃a,d.K w a v.cells.toList∧ok a:=by
 obtain⟨fuel,hf⟩:=h;exact ho w fuel _ _ hf
theorem aFu{a b:Option Addr}{l m c q:Nat}(h:(Value.slice a l c).cells.toList= [.slice b m q]):a=b∧l=m∧c=q:=by
 simpa[Value.cells]using h
abbrev ok5(a:Int):Prop:=(Lit.int .u8 a).wf=true
abbrev aqm(l:List Int):Prop:=l.length≤maxLen∧ ∀x ∈ l,ok5 x
theorem op5:J9 Try.prog 5 (Kd.int .u8) ok5:=aEw Try.underlying5
theorem aEu:J9 Try.prog 36 (Kd.slice 5 (Kd.int .u8)) aqm:=aEx Try.underlying36 (by kernel_rfl) op5
end Go.Proofs.Ytbpjidekjogfeaa.A
namespace Go.Proofs.Ytbpjidekjogfeaa.A
open Go.RowKit Go.Proofs.YtbpjidekjogfeaaW.cK Go.Proofs.YtbpjidekjogfeaaW.dP Go.Proofs.YtbpjidekjogfeaaW.eE
set_option linter.unusedVariables false
set_option linter.unusedSimpArgs false
def Ev{α:Type}(F:Nat→Option α)(r:α):Prop:= ∃K,∀k,K≤k→F k=some r
theorem Ev.mk{α:Type}{F:Nat→Option α}{r:α}(K:Nat)(h: ∀k,K<k→F k=some r):Ev F r:=⟨K+1,fun k hk=>h k hk⟩
theorem Ev.get{α:Type}{F:Nat→Option α}{r:α}(h:Ev F r): ∃k,F k=some r:=by
 obtain⟨K,h⟩:=h;exact⟨K,h K (Nat.le_refl _)⟩
theorem Ev.const{α:Type}{o:Option α}{r:α}(h:o=some r):Ev (fun _=>o) r:=⟨0,fun _ _=>h⟩
theorem Ev.ret{α:Type}(r:α):Ev (fun _=>some r) r:=⟨0,fun _ _=>rfl⟩
theorem Ev.bind{α β:Type}{F:Nat→Option α}{G:Nat→α→Option β}{a:α}{b:β}(h1:Ev F a)(h2:Ev (fun k=>G k a) b):Ev (fun k=>(F k).bind (G k)) b:=by
 obtain⟨K1,h1⟩:=h1;obtain⟨K2,h2⟩:=h2;refine⟨max K1 K2,fun k hk=>?_⟩;show(F k).bind (G k)=some b;rw[h1 k (by omega)];exact h2 k (by omega)
theorem Ev.pos{α:Type}{c:Prop}[Decidable c]{A B:Nat→Option α}{r:α}(h:c)(hA:Ev A r):Ev (fun k=>if c then A k else B k) r:=by
 obtain⟨K,hA⟩:=hA;exact⟨K,fun k hk=>by show(if c then A k else B k)=some r;rw[if_pos h];exact hA k hk⟩
theorem Ev.neg{α:Type}{c:Prop}[Decidable c]{A B:Nat→Option α}{r:α}(h: ¬c)(hB:Ev B r):Ev (fun k=>if c then A k else B k) r:=by
 obtain⟨K,hB⟩:=hB;exact⟨K,fun k hk=>by show(if c then A k else B k)=some r;rw[if_neg h];exact hB k hk⟩
theorem Ev.ite{α:Type}{c:Prop}[Decidable c]{A B:Nat→Option α}{a b:α}(hA:c→Ev A a)(hB: ¬c→Ev B b):Ev (fun k=>if c then A k else B k) (if c then a else b):=by
 by_cases h:c
 ·rw[if_pos h];exact Ev.pos h (hA h)
 ·rw[if_neg h];exact Ev.neg h (hB h)
theorem Ev.succ{α:Type}{F:Nat→Option α}{r:α}(h:Ev (fun k=>F (k+1)) r):Ev F r:=by
 obtain⟨K,h⟩:=h;refine⟨K+1,fun k hk=>?_⟩;obtain⟨m,rfl⟩: ∃m,k=m+1:=⟨k-1,by omega⟩;exact h m (by omega)
theorem Ev.of_eq{α:Type}{F G:Nat→Option α}{r:α}(h:Ev F r)(e: ∀k,G k=F k):Ev G r:=by
 obtain⟨K,h⟩:=h;exact⟨K,fun k hk=>(e k).trans (h k hk)⟩
theorem Ev.to{α:Type}{F:Nat→Option α}{r s:α}(h:Ev F r)(e:r=s):Ev F s:=e▸h
theorem Ev.uniq{α:Type}{F:Nat→Option α}{r s:α}(h:Ev F r)(g:Ev F s):r=s:=by
 obtain⟨K1,h⟩:=h;obtain⟨K2,g⟩:=g;exact Option.some.inj ((h (max K1 K2) (by omega)).symm.trans (g (max K1 K2) (by omega)))
theorem oG{α:Type}{l:List α}{i:Nat}(d:α)(h:i<l.length):l.getD i d=l[i]:=by
 rw[List.getD_eq_getElem?_getD,List.getElem?_eq_getElem h];rfl
theorem fY(i:Nat)(h:i<9223372036854775807):wrap64 ((i:Int)+1)=((i+1:Nat):Int):=by unfold wrap64;omega
theorem SH(i:Nat)(h:0<i)(h2:i≤9223372036854775807):wrap64 ((i:Int)-1)=((i-1:Nat):Int):=by unfold wrap64;omega
theorem wid(x:Int)(h: -9223372036854775808≤x)(h2:x≤9223372036854775807):wrap64 x=x:=by unfold wrap64;omega
theorem awZ{L:Nat→Int→Option Bool}{n:Nat}{P:Nat→Bool}(h: ∀k i,i<n→L (k+1) (i:Int)=if P i=true then L k ((i+1:Nat):Int)else some false)
  (he: ∀k,L (k+1) (n:Int)=some true) (d:Nat): ∀k i,i+d=n→d<k→L k (i:Int)=some ((List.range' i d).all P):=by
 induction d with
 |zero=>
  intro k i hi hk;obtain⟨k,rfl⟩: ∃m,k=m+1:=⟨k-1,by omega⟩;(obtain rfl:i=n:=by omega);rw[he];rfl
 |succ d ih=>
  intro k i hi hk;obtain⟨k,rfl⟩: ∃m,k=m+1:=⟨k-1,by omega⟩;rw[h k i (by omega),List.range'_succ,List.all_cons];by_cases hp:P i=true
  ·rw[if_pos hp,ih k (i+1) (by omega) (by omega),hp,Bool.true_and]
  ·rw[if_neg hp];(have:P i=false:=by simpa using hp);rw[this,Bool.false_and]
theorem Lt(a b c:Int):gh.f a b c=some (decide (b≤a∧a≤c)):=by
 unfold gh.f;split
 ·congr 1;rw[decide_eq_decide];omega
 ·congr 1;exact(decide_eq_false (by omega)).symm
def nW:List ai→Int→List Int→Option Int
 | [],low,_=>some low
 |b::bs,low,ps=>if b.f0=low∧(1≤b.f1∧b.f1≤24)∧(0≤b.f2∧b.f2≤999)∧ ¬(0<b.f2∧b.f2 ∈ ps)∧low+b.f1≤24 then nW bs (low+b.f1) (b.f2::ps)else none
def vD(h:Int)(bx:List ai)(o:Option Int):Bool:=match o with|none=>false|some low=>decide (bx≠ [])&& decide (low=h)
theorem axd(h:Int)(fx:List Int)(bx:List ai)(at_:Int)(i:Nat)(hi:i<bx.length)(hi2:i≤24)(b:ai)(P:Prop)[Decidable P](hP:P↔(0<b.f2∧ ∃j,j<i∧(bx.getD j jf).f2=b.f2))(d:Nat):
  ∀(k j:Nat),j+d=i→d<k→(∀m,m<j→0<b.f2→(bx.getD m jf).f2≠b.f2)→iw.l1 k at_ (i:Int) (j:Int) h fx bx b.f0 b.f1 b.f2 b.f3=if P then some false else(if(wrap64 (at_+b.f1))>24 then(some false)else(iw.l0 (k-d-1) (wrap64 (at_+b.f1)) ((i+1:Nat):Int) h fx bx)):=by
 induction d with
 |zero=>
  intro k j hj hk hn;obtain⟨k,rfl⟩: ∃m,k=m+1:=⟨k-1,by omega⟩;simp only[iw.l1];(have hnp: ¬P:=fun hp=>by obtain⟨h0,m,hm,e⟩:=hP.mp hp;exact hn m (by omega) h0 e);rw[if_neg (by omega),if_neg hnp,fY i (by omega)];rfl
 |succ d ih=>
  intro k j hj hk hn;obtain⟨k,rfl⟩: ∃m,k=m+1:=⟨k-1,by omega⟩;simp only[iw.l1];have er:ah bx (j:Int)=bx.getD j jf:=rfl;rw[if_pos (by omega),er,fY j (by omega)];by_cases c0:b.f2>0
  ·rw[if_pos c0,if_pos (by omega),if_pos (by omega)];by_cases c1:(bx.getD j jf).f2=b.f2
   ·rw[if_pos c1,if_pos (hP.mpr ⟨c0,j,by omega,c1⟩)]
   ·rw[if_neg c1,ih k (j+1) (by omega) (by omega) (fun m hm h0=>by
     by_cases e:m=j
     ·subst e;exact c1
     ·exact hn m (by omega) h0),show k+1-(d+1)-1=k-d-1 by omega]
  ·rw[if_neg c0,ih k (j+1) (by omega) (by omega) (fun m hm h0=>absurd h0 c0),show k+1-(d+1)-1=k-d-1 by omega]
theorem drop_cons{α:Type}(l:List α)(d:α)(i:Nat)(hi:i<l.length):l.drop i=l.getD i d::l.drop (i+1):=by
 rw[List.drop_eq_getElem_cons hi,oG d hi]
theorem axe(h:Int)(fx:List Int)(bx:List ai)(hl:bx.length≤140737488351232): ∀(d k i:Nat) (at_:Int) (ps:List Int),(24-at_).toNat=d→0≤at_→at_≤24→(i:Int)≤at_→i≤bx.length→(d+2)*40<k→
  (∀x,x ∈ ps↔ ∃j,j<i∧(bx.getD j jf).f2=x)→iw.l0 k at_ (i:Int) h fx bx=some (vD h bx (nW (bx.drop i) at_ ps)):=by
 intro d;induction d using Nat.strongRecOn with
 |_ d ih=>
 intro k i at_ ps hd h0 h1 hi yP hk hps;obtain⟨k,rfl⟩: ∃m,k=m+2:=⟨k-2,by omega⟩;simp only[iw.l0];by_cases c:i<bx.length
 ·have er:ah bx (i:Int)=bx.getD i jf:=rfl;rw[if_pos (by omega),if_pos (by omega),drop_cons bx jf i c,er];simp only[Lt,Option.bind_some,nW];generalize hb:bx.getD i jf=b;by_cases c0:b.f0=at_
  ·rw[if_pos c0];by_cases c1:1≤b.f1∧b.f1≤24
   ·rw[if_pos (decide_eq_true c1)];by_cases c2:0≤b.f2∧b.f2≤999
    ·simp only[decide_eq_true c2,iw.j1,Bool.not_true];rw[if_neg (by simp)];have hin:=axd h fx bx at_ i c (by omega) b (0<b.f2∧b.f2 ∈ ps) (by rw[hps]) i k 0 (by omega) (by omega) (fun m hm=>by omega);refine hin.trans ?_;by_cases c3:0<b.f2∧b.f2 ∈ ps
     ·rw[if_pos c3,if_neg (fun h=>h.2.2.2.1 c3)];rfl
     ·rw[if_neg c3,wid (at_+b.f1) (by omega) (by omega)];by_cases c4:at_+b.f1>24
      ·rw[if_pos c4,if_neg (fun h=>by have:=h.2.2.2.2;omega)];rfl
      ·rw[if_neg c4,if_pos ⟨c0,c1,c2,c3,by omega⟩];refine ih (24-(at_+b.f1)).toNat (by omega) _ (i+1) (at_+b.f1) (b.f2::ps) rfl (by omega) (by omega) (by omega) (by omega) (by omega) (fun x=>?_);rw[List.mem_cons,hps];constructor
       ·rintro(rfl|⟨j,hj,e⟩)
        ·exact⟨i,by omega,by rw[hb]⟩
        ·exact⟨j,by omega,e⟩
       ·rintro⟨j,hj,e⟩;by_cases ej:j=i
        ·subst ej;left;rw[←e,hb]
        ·right;exact⟨j,by omega,e⟩
    ·simp only[decide_eq_false c2,iw.j1,Bool.not_false];rw[if_pos trivial,if_neg (fun h=>c2 h.2.2.1)];rfl
   ·rw[if_neg (by simpa using c1)];simp only[iw.j1];rw[if_pos trivial,if_neg (fun h=>c1 h.2.1)];rfl
  ·rw[if_neg c0];simp only[iw.j1];rw[if_pos trivial,if_neg (fun h=>c0 h.1)];rfl
 ·rw[if_neg (by omega),List.drop_eq_nil_of_le (by omega)];simp only[nW,vD];by_cases c0:(bx.length:Int)>0
  ·(have hne:bx≠ []:=by intro e;rw[e]at c0;simp at c0);rw[if_pos c0,decide_eq_true hne,Bool.true_and]
   congr 1
  ·(have hne: ¬bx≠ []:=by intro e;exact e (List.length_eq_zero_iff.mp (by omega)));rw[if_neg c0,decide_eq_false hne,Bool.false_and]
theorem axc(h:Int)(fx:List Int)(bx:List ai)(hl:bx.length≤140737488351232)(k:Nat)(hk:1100<k):iw.f k h fx bx=some (vD h bx (nW bx 0 [])):=by
 unfold iw.f;have:=axe h fx bx hl 24 k 0 0 [] (by omega) (by omega) (by omega) (by omega) (by omega) (by omega) (by simp);exact this
theorem aak: ∀(bs:List ai) (low:Int) (ps:List Int) (e:Int),nW bs low ps=some e→low≤e∧(bs.length:Int)≤e-low∧(low≤24→e≤24)
 | [],low,ps,e,h=>by simp[nW]at h;subst h;exact⟨by omega,by simp,id⟩
 |b::bs,low,ps,e,h=>by
  simp only[nW]at h;split at h
  ·next hc=>
   obtain⟨h1,h2,h3⟩:=aak bs _ _ _ h;exact⟨by omega,by simp;omega,fun _=>h3 (by omega)⟩
  ·simp at h
theorem ajV(h:Int)(hh:h≤24): ∀(bs:List ai) (low:Int) (ls ps:List Int) (e:Int) (ls':List Int),0≤low→lQ h bs low ls ps=some (e,ls')→nW bs low ps=some e∧ ∀f,f ∈ ls'↔f ∈ ls∨f ∈ bs.map (fun b=>b.f0)
 | [],low,ls,ps,e,ls',h0,hb=>by
  simp only[lQ,Option.some.injEq,Prod.mk.injEq]at hb;obtain⟨rfl,rfl⟩:=hb;exact⟨rfl,fun f=>by simp⟩
 |b::bs,low,ls,ps,e,ls',h0,hb=>by
  simp only[lQ]at hb;split at hb
  ·next hc=>
   obtain⟨h1,h2⟩:=ajV h hh bs _ _ _ _ _ (by omega) hb;refine⟨?_,fun f=>?_⟩
   ·simp only[nW];rw[if_pos ⟨hc.1,⟨hc.2.1.1,by omega⟩,hc.2.2.1,hc.2.2.2,by omega⟩];exact h1
   ·rw[h2 f,List.mem_cons,List.map_cons,List.mem_cons];constructor
    ·rintro((h|h)|h)
     ·exact Or.inr (Or.inl h)
     ·exact Or.inl h
     ·exact Or.inr (Or.inr h)
    ·rintro(h|h|h)
     ·exact Or.inl (Or.inr h)
     ·exact Or.inl (Or.inl h)
     ·exact Or.inr h
  ·simp at hb
theorem ajX(h:Int): ∀(bs:List ai) (low:Int) (ls ps:List Int),nW bs low ps=some h→ ∃ls',lQ h bs low ls ps=some (h,ls')
 | [],low,ls,ps,hb=>by
  simp only[nW,Option.some.injEq]at hb;subst hb;exact⟨ls,rfl⟩
 |b::bs,low,ls,ps,hb=>by
  simp only[nW]at hb;split at hb
  ·next hc=>
   have hle:=(aak bs _ _ _ hb).1;obtain⟨ls',h1⟩:=ajX h bs _ (b.f0::ls) _ hb;refine⟨ls',?_⟩;simp only[lQ];rw[if_pos ⟨hc.1,⟨hc.2.1.1,by omega⟩,hc.2.2.1,hc.2.2.2.1⟩];exact h1
  ·simp at hb
theorem akq(h:Int)(fx:List Int)(bx:List ai):(decide (1≤h∧h≤24)&&(vD h bx (nW bx 0 [])&&(mS h none fx && fx.all (fun f=>decide (f ∈ bx.map (fun b=>b.f0))))))=hO h fx bx:=by
 unfold hO;by_cases hh:1≤h∧h≤24
 ·rw[decide_eq_true hh,Bool.true_and,Bool.true_and];cases hP:lQ h bx 0 [] []with
  |none=>
   have hf:vD h bx (nW bx 0 [])=false:=by
    cases hS:nW bx 0 []with
    |none=>rfl
    |some e=>
     by_cases c:e=h
     ·subst c;obtain⟨ls',hl⟩:=ajX e bx 0 [] [] hS;rw[hl]at hP;simp at hP
     ·simp[vD,c]
   rw[hf];simp
  |some z=>
   obtain⟨e,ls⟩:=z;obtain⟨h1,h2⟩:=ajV h hh.2 bx 0 [] [] e ls (by omega) hP;have ha:fx.all (fun f=>decide (f ∈ bx.map (fun b=>b.f0)))=fx.all (fun f=>decide (f ∈ ls)):=by
    congr 1
    funext f;rw[decide_eq_decide,h2 f];simp
   rw[h1,ha];simp only[vD];cases decide (bx≠ [])<;>cases decide (e=h)<;>cases mS h none fx<;>cases fx.all (fun f=>decide (f ∈ ls))<;>rfl
 ·rw[decide_eq_false hh,Bool.false_and,Bool.false_and,Bool.false_and,Bool.false_and]
def KO(h:Int)(L:List Int):Option Int→List Int→Bool
 |_,[]=>true
 |p,f::fs=>decide (1≤f∧f≤h-1)&&(match p with|none=>true|some q=>decide (q<f))&& decide (f ∈ L)&& KO h L (some f) fs
theorem akX(h:Int)(L:List Int): ∀(fs:List Int) (p:Option Int),KO h L p fs=(mS h p fs && fs.all (fun f=>decide (f ∈ L)))
 | [],p=>rfl
 |f::fs,p=>by
  simp only[KO,mS,List.all_cons];rw[akX h L fs (some f)]
  ac_rfl
theorem ja{α:Type}{l:List α}{i:Nat}{b:α}{rest:List α}(d:α)(h:l.drop i=b::rest):i<l.length∧l.getD i d=b∧l.drop (i+1)=rest:=by
 have hi:i<l.length:=by
  apply Classical.byContradiction;intro c;rw[List.drop_eq_nil_of_le (by omega)]at h;cases h
 have h2:=drop_cons l d i hi;rw[h]at h2;(injection h2 with h3 h4);exact⟨hi,h3.symm,h4.symm⟩
theorem jA{α:Type}{l:List α}{i:Nat}(h:l.drop i= [])(hi:i≤l.length):i=l.length:=by
 have:=List.drop_eq_nil_iff.mp h;omega
theorem abW(h:Int)(fx:List Int)(bx:List ai)(i:Nat)(hi:i<fx.length)(hi2:i≤140737488351232)(hl:bx.length≤24)(s:Bool)(hs:Ev (fun k=>eG.l0 k ((i+1:Nat):Int) h fx bx) s):
  ∀(rest:List ai) (j:Nat) (b:Bool),bx.drop j=rest→j≤bx.length→Ev (fun k=>eG.l1 k (i:Int) b (j:Int) h fx bx) (if(b||rest.any (fun x=>decide (x.f0=fx.getD i 0)))=true then s else false)
 | [],j,b,hd,hj=>by
  refine Ev.succ ?_;simp only[eG.l1];have he:=jA hd hj;refine Ev.neg (by omega) ?_;rw[List.any_nil,Bool.or_false,fY i (by omega)];exact Ev.ite (fun _=>hs) (fun _=>Ev.ret _)
 |x::rest,j,b,hd,hj=>by
  obtain⟨h1,h2,h3⟩:=ja jf hd;refine Ev.succ ?_;simp only[eG.l1];refine Ev.pos (by omega) ?_;rw[fY j (by omega),List.any_cons];cases b with
  |true=>
   refine Ev.pos rfl ?_;refine(abW h fx bx i hi hi2 hl s hs rest (j+1) true h3 (by omega)).to ?_;rw[Bool.true_or,Bool.true_or]
  |false=>
   refine Ev.neg (by simp) ?_;refine Ev.pos (by omega) ?_;refine Ev.pos (by omega) ?_;refine Ev.pos (by omega) ?_;refine(abW h fx bx i hi hi2 hl s hs rest (j+1) _ h3 (by omega)).to ?_;rw[Bool.false_or];have e1:ah bx (j:Int)=x:=h2;have e2:rd fx (i:Int)=fx.getD i 0:=rfl;rw[e1,e2];rfl
theorem aqA(fx:List Int)(i:Nat):rq fx ((i+1:Nat):Int)=some (fx.getD i 0):=by
 unfold rq;rw[if_neg (by omega),show((i+1:Nat):Int)-1=(i:Int) by omega];rfl
theorem aw3(f:Int)(bx:List ai):(bx.any (fun x=>decide (x.f0=f)))=decide (f ∈ bx.map (fun b=>b.f0)):=by
 rw[Bool.eq_iff_iff,List.any_eq_true,decide_eq_true_iff,List.mem_map];constructor
 ·rintro⟨x,hx,e⟩;exact⟨x,hx,of_decide_eq_true e⟩
 ·rintro⟨x,hx,e⟩;exact⟨x,hx,decide_eq_true e⟩
theorem akZ(h:Int)(h0:1≤h)(h1:h≤24)(fx:List Int)(hx:fx.length≤140737488351232)(bx:List ai)(hl:bx.length≤24):
  ∀(rest:List Int) (i:Nat),fx.drop i=rest→i≤fx.length→Ev (fun k=>eG.l0 k (i:Int) h fx bx) (KO h (bx.map (fun b=>b.f0)) (rq fx (i:Int)) rest)
 | [],i,hd,hj=>by
  refine Ev.succ ?_;simp only[eG.l0];have he:=jA hd hj;refine Ev.neg (by omega) ?_;exact Ev.ret _
 |f::rest,i,hd,hj=>by
  obtain⟨h2,h3,h4⟩:=ja 0 hd;have ih:=akZ h h0 h1 fx hx bx hl rest (i+1) h4 (by omega);have hf:=abW h fx bx i h2 (by omega) hl _ ih bx 0 false rfl (by omega);rw[Bool.false_or,aw3,h3,aqA,h3]at hf;have er:rd fx (i:Int)=f:=h3;have go: ∀(b:Bool),Ev (fun k=>eG.j2 k (i:Int) b h fx bx) (if b=true then false else if decide (f ∈ bx.map (fun b=>b.f0))=true then KO h (bx.map (fun b=>b.f0)) (some f) rest else false):=by
   intro b;refine Ev.succ ?_;simp only[eG.j2];exact Ev.ite (fun _=>Ev.ret _) (fun _=>hf)
  refine Ev.succ ?_;simp only[eG.l0];refine Ev.pos (by omega) ?_;refine Ev.pos (by omega) ?_;rw[er,wid (h-1) (by omega) (by omega)];refine Ev.bind (Ev.const (Lt _ _ _)) ?_;simp only[KO];by_cases c1:1≤f∧f≤h-1
  ·refine Ev.pos (decide_eq_true c1) ?_;rw[decide_eq_true c1,Bool.true_and];by_cases c2:(i:Int)>0
   ·have hp:rq fx (i:Int)=some (fx.getD (i-1) 0):=by
     have:=aqA fx (i-1)
     rwa [show i-1+1=i by omega]at this
    have e2:rd fx ((i-1:Nat):Int)=fx.getD (i-1) 0:=rfl;refine Ev.pos c2 ?_;rw[SH i (by omega) (by omega),hp,e2];refine Ev.pos (by omega) ?_;refine Ev.pos (by omega) ?_;refine(go _).to ?_;by_cases c3:f≤fx.getD (i-1) 0
    ·rw[if_pos (decide_eq_true c3)];simp only[decide_eq_false (show¬fx.getD (i-1) 0<f by omega),Bool.false_and]
    ·rw[if_neg (by simpa using c3)];simp only[decide_eq_true (show fx.getD (i-1) 0<f by omega),Bool.true_and];cases decide (f ∈ bx.map (fun b=>b.f0))<;>simp
   ·(have hp:rq fx (i:Int)=none:=by unfold rq;rw[if_pos (by omega)]);refine Ev.neg c2 ?_;refine(go _).to ?_;rw[hp];cases decide (f ∈ bx.map (fun b=>b.f0))<;>simp
  ·refine Ev.neg (by simpa using c1) ?_;refine(go _).to ?_;rw[if_pos rfl,decide_eq_false c1];simp only[Bool.false_and]
theorem KG(h:Int)(fx:List Int)(hx:fx.length≤140737488351232)(bx:List ai)(hl:bx.length≤140737488351232):Ev (fun k=>eG.f k h fx bx) (hO h fx bx):=by
 refine Ev.of_eq ?_ (fun k=>by unfold eG.f;rfl);refine Ev.bind (Ev.const (Lt _ _ _)) ?_;rw[←akq,←akX];by_cases hh:1≤h∧h≤24
 ·refine Ev.pos (decide_eq_true hh) ?_;refine Ev.bind (Ev.mk 1100 (fun k hk=>axc h fx bx hl k hk)) ?_;rw[decide_eq_true hh,Bool.true_and];refine Ev.succ ?_;simp only[eG.j0];cases hS:nW bx 0 []with
  |none=>
   refine Ev.pos (by simp[vD]) ?_;exact Ev.ret _
  |some e=>
   by_cases hb:vD h bx (some e)=true
   ·rw[hb];have hle:=aak bx 0 [] e hS;have he:e≤24:=hle.2.2 (by omega);refine Ev.neg (by simp) ?_;exact akZ h hh.1 hh.2 fx hx bx (by omega) fx 0 rfl (by omega)
   ·(have bH:vD h bx (some e)=false:=by simpa using hb);rw[bH];refine Ev.pos (by simp) ?_;exact Ev.ret _
 ·refine Ev.neg (by simpa using hh) ?_;rw[decide_eq_false hh,Bool.false_and];refine Ev.succ ?_;simp only[eG.j0];refine Ev.pos (by simp) ?_;exact Ev.ret _
end Go.Proofs.Ytbpjidekjogfeaa.A
