/- Used by the law FnExactBankPut. -/
import Derived.Test.YtbpjidekjogfeaaProg
import Derived.Lib.SliceRun
import Derived.Test.YtbpjidekjogfeaaZFnExactBankPutx1
import Derived.Laws.StructEq
import Derived.Test.YtbpjidekjogfeaaZFnExactBankPuth
set_option maxHeartbeats 8000000
set_option maxRecDepth 100000
namespace Go.Proofs.Ytbpjidekjogfeaa.A
open Go.RowKit Go.Proofs.YtbpjidekjogfeaaW.cv Go.Proofs.YtbpjidekjogfeaaW.dr Go.Proofs.YtbpjidekjogfeaaW.dN
attribute [local go_sem] gO gS gR gV gQ gU gP gT
set_option linter.unusedVariables false
set_option linter.unusedSimpArgs false
def Zu:Option Int→Value
 |none=> .nilIface
 |some c=> .iface 0 (.int .i64 c)
theorem aX:Zu none= .nilIface:=rfl
theorem aY(c:Int):Zu (some c)= .iface 0 (.int .i64 c):=rfl
theorem info3:(Try.prog.info? 3).map (fun i=>(i.zero,i.size,i.bytes))=some (some (.int .i64 0),1,8):=by kernel_rfl
theorem Up:(Try.prog.info? 41).map (fun i=>(i.zero,i.size,i.bytes))=some (some (.agg #[(.int .i64 0),(.slice none 0 0),(.slice none 0 0)]),3,56):=by kernel_rfl
theorem Jo:(Try.prog.info? 50).map (fun i=>(i.zero,i.size,i.bytes))=some (some (.agg #[(.int .i64 0),(.int .i64 0),(.int .i64 0)]),3,24):=by kernel_rfl
theorem pz:(Try.prog.info? 98).map (fun i=>(i.zero,i.size,i.bytes))=some (some (.agg #[(.int .i64 0),(.int .i64 0),(.int .i64 0),(.bool false)]),4,32):=by kernel_rfl
theorem ads:(Try.prog.info? 113).map (fun i=>(i.zero,i.size,i.bytes))=some (some (.agg #[(.int .i64 0),(.int .i64 0),(.int .i64 0),(.int .i64 0),(.int .i64 0)]),5,40):=by kernel_rfl
structure jM where
 f0:Int
 f1:Int
 f2:Int
 f3:Bool
def V7:jM:=⟨(0:Int),(0:Int),(0:Int),false⟩
def tO:Kd jM:=Kd.yM (Kd.pair (Kd.int .i64) (Kd.pair (Kd.int .i64) (Kd.pair (Kd.int .i64) Kd.bool))) (fun x:jM=>(x.f0,x.f1,x.f2,x.f3))
theorem aqt{w:World}{x:jM}{cs:List Value}(h:tO.K w x cs):cs= [.int .i64 x.f0,.int .i64 x.f1,.int .i64 x.f2,.bool x.f3]:=by
 obtain⟨_,_,rfl,rfl,⟨_,_,rfl,rfl,⟨_,_,rfl,rfl,rfl⟩⟩⟩:=h;exact rfl
def n5(xs:List jM)(i:Int):jM:=xs.getD i.toNat V7
theorem aiR{w:World}{A:Option Addr}{n:Nat}{xs:List jM}(h:Kd.C tO w A n xs)(i:Int)(h0:0≤i)(h1:i<n): ∃ad,A=some ad∧w.cell? (ad.add (i.toNat*4))=some (.int .i64 (n5 xs i).f0)∧w.cell? ⟨(ad.add (i.toNat*4)).block,(ad.add (i.toNat*4)).off+1,none⟩=some (.int .i64 (n5 xs i).f1)∧w.cell? ⟨(ad.add (i.toNat*4)).block,(ad.add (i.toNat*4)).off+2,none⟩=some (.int .i64 (n5 xs i).f2)∧w.cell? ⟨(ad.add (i.toNat*4)).block,(ad.add (i.toNat*4)).off+3,none⟩=some (.bool (n5 xs i).f3):=by
 obtain⟨ad,c,e,_,hK,hc0⟩:=Kd.zf h V7 i h0 h1;have hc: ∀j u,c[j]? =some u→w.cell? (ad.add (i.toNat*4+j))=some u:=hc0;obtain rfl:=aqt hK;exact⟨ad,e,hc 0 _ rfl,by rw[←mA _ _ 1 (by omega)];exact hc 1 _ rfl,by rw[←mA _ _ 2 (by omega)];exact hc 2 _ rfl,by rw[←mA _ _ 3 (by omega)];exact hc 3 _ rfl⟩
structure iM where
 f0:Int
 f1:(List Int)
 f2:(List jM)
def Ed:iM:=⟨(0:Int),([]:List Int),([]:List jM)⟩
def AQ:Kd iM:=Kd.yM (Kd.pair (Kd.int .i64) (Kd.pair (Kd.slice 3 (Kd.int .i64)) (Kd.slice 123 tO))) (fun x:iM=>(x.f0,x.f1,x.f2))
theorem aqw{w:World}{x:iM}{cs:List Value}(h:AQ.K w x cs): ∃A1 c1 A2 c2,cs= [.int .i64 x.f0,.slice A1 x.f1.length c1,.slice A2 x.f2.length c2]∧x.f1.length≤c1∧(Kd.int .i64).C w A1 x.f1.length x.f1∧x.f2.length≤c2∧tO.C w A2 x.f2.length x.f2:=by
 obtain⟨_,_,rfl,rfl,⟨_,_,rfl,⟨A1,c1,rfl,l1,g1⟩,⟨A2,c2,rfl,l2,g2⟩⟩⟩:=h;exact⟨A1,c1,A2,c2,rfl,l1,g1,l2,g2⟩
def gD(xs:List iM)(i:Int):iM:=xs.getD i.toNat Ed
theorem PW{w:World}{A:Option Addr}{n:Nat}{xs:List iM}(h:Kd.C AQ w A n xs)(i:Int)(h0:0≤i)(h1:i<n): ∃ad A1 c1 A2 c2,A=some ad∧w.cell? (ad.add (i.toNat*3))=some (.int .i64 (gD xs i).f0)∧w.cell? ⟨(ad.add (i.toNat*3)).block,(ad.add (i.toNat*3)).off+1,none⟩=some (.slice A1 (gD xs i).f1.length c1)∧w.cell? ⟨(ad.add (i.toNat*3)).block,(ad.add (i.toNat*3)).off+2,none⟩=some (.slice A2 (gD xs i).f2.length c2)∧(gD xs i).f1.length≤c1∧(Kd.int .i64).C w A1 (gD xs i).f1.length (gD xs i).f1∧(gD xs i).f2.length≤c2∧tO.C w A2 (gD xs i).f2.length (gD xs i).f2:=by
 obtain⟨ad,c,e,_,hK,hc0⟩:=Kd.zf h Ed i h0 h1;have hc: ∀j u,c[j]? =some u→w.cell? (ad.add (i.toNat*3+j))=some u:=hc0;obtain⟨A1,c1,A2,c2,rfl,l1,g1,l2,g2⟩:=aqw hK;exact⟨ad,A1,c1,A2,c2,e,hc 0 _ rfl,by rw[←mA _ _ 1 (by omega)];exact hc 1 _ rfl,by rw[←mA _ _ 2 (by omega)];exact hc 2 _ rfl,l1,g1,l2,g2⟩
structure aj where
 f0:Int
 f1:Int
 f2:Int
 f3:Bool
def eE:aj:=⟨(0:Int),(0:Int),(0:Int),false⟩
def bw:Kd aj:=Kd.yM (Kd.pair (Kd.int .i64) (Kd.pair (Kd.int .i64) (Kd.pair (Kd.int .i64) Kd.bool))) (fun x:aj=>(x.f0,x.f1,x.f2,x.f3))
theorem adw:Kd.Heap bw:=Kd.amV _ (Kd.Sh (Kd.Sg .i64) (Kd.Sh (Kd.Sg .i64) (Kd.Sh (Kd.Sg .i64) Kd.amU)))
theorem aqx{w:World}{x:aj}{cs:List Value}(h:bw.K w x cs):cs= [.int .i64 x.f0,.int .i64 x.f1,.int .i64 x.f2,.bool x.f3]:=by
 obtain⟨_,_,rfl,rfl,⟨_,_,rfl,rfl,⟨_,_,rfl,rfl,rfl⟩⟩⟩:=h;exact rfl
theorem mK{w:World}{base:Nat}{ok:Nat→Prop}{x:aj}{cs:List Value}(h:bw.M w base ok x cs):cs= [.int .i64 x.f0,.int .i64 x.f1,.int .i64 x.f2,.bool x.f3]:=by
 obtain⟨_,_,rfl,rfl,⟨_,_,rfl,rfl,⟨_,_,rfl,rfl,rfl⟩⟩⟩:=h;exact rfl
theorem lX(w:World)(base:Nat)(ok:Nat→Prop)(x:aj):bw.M w base ok x [.int .i64 x.f0,.int .i64 x.f1,.int .i64 x.f2,.bool x.f3]:=⟨[.int .i64 x.f0],[.int .i64 x.f1,.int .i64 x.f2,.bool x.f3],rfl,rfl,⟨[.int .i64 x.f1],[.int .i64 x.f2,.bool x.f3],rfl,rfl,⟨[.int .i64 x.f2],[.bool x.f3],rfl,rfl,rfl⟩⟩⟩
def ah(xs:List aj)(i:Int):aj:=xs.getD i.toNat eE
theorem eW{w:World}{A:Option Addr}{n:Nat}{xs:List aj}(h:Kd.C bw w A n xs)(i:Int)(h0:0≤i)(h1:i<n): ∃ad,A=some ad∧w.cell? (ad.add (i.toNat*4))=some (.int .i64 (ah xs i).f0)∧w.cell? ⟨(ad.add (i.toNat*4)).block,(ad.add (i.toNat*4)).off+1,none⟩=some (.int .i64 (ah xs i).f1)∧w.cell? ⟨(ad.add (i.toNat*4)).block,(ad.add (i.toNat*4)).off+2,none⟩=some (.int .i64 (ah xs i).f2)∧w.cell? ⟨(ad.add (i.toNat*4)).block,(ad.add (i.toNat*4)).off+3,none⟩=some (.bool (ah xs i).f3):=by
 obtain⟨ad,c,e,_,hK,hc0⟩:=Kd.zf h eE i h0 h1;have hc: ∀j u,c[j]? =some u→w.cell? (ad.add (i.toNat*4+j))=some u:=hc0;obtain rfl:=aqx hK;exact⟨ad,e,hc 0 _ rfl,by rw[←mA _ _ 1 (by omega)];exact hc 1 _ rfl,by rw[←mA _ _ 2 (by omega)];exact hc 2 _ rfl,by rw[←mA _ _ 3 (by omega)];exact hc 3 _ rfl⟩
structure aQ where
 f0:Int
 f1:Int
 f2:Int
def vD:aQ:=⟨(0:Int),(0:Int),(0:Int)⟩
def iR:Kd aQ:=Kd.yM (Kd.pair (Kd.int .i64) (Kd.pair (Kd.int .i64) (Kd.int .i64))) (fun x:aQ=>(x.f0,x.f1,x.f2))
theorem adv{w:World}{x:aQ}{cs:List Value}(h:iR.K w x cs):cs= [.int .i64 x.f0,.int .i64 x.f1,.int .i64 x.f2]:=by
 obtain⟨_,_,rfl,rfl,⟨_,_,rfl,rfl,rfl⟩⟩:=h;exact rfl
theorem Uq{w:World}{base:Nat}{ok:Nat→Prop}{x:aQ}{cs:List Value}(h:iR.M w base ok x cs):cs= [.int .i64 x.f0,.int .i64 x.f1,.int .i64 x.f2]:=by
 obtain⟨_,_,rfl,rfl,⟨_,_,rfl,rfl,rfl⟩⟩:=h;exact rfl
theorem AP(w:World)(base:Nat)(ok:Nat→Prop)(x:aQ):iR.M w base ok x [.int .i64 x.f0,.int .i64 x.f1,.int .i64 x.f2]:=⟨[.int .i64 x.f0],[.int .i64 x.f1,.int .i64 x.f2],rfl,rfl,⟨[.int .i64 x.f1],[.int .i64 x.f2],rfl,rfl,rfl⟩⟩
def bX(xs:List aQ)(i:Int):aQ:=xs.getD i.toNat vD
theorem nP{w:World}{A:Option Addr}{n:Nat}{xs:List aQ}(h:Kd.C iR w A n xs)(i:Int)(h0:0≤i)(h1:i<n): ∃ad,A=some ad∧w.cell? (ad.add (i.toNat*3))=some (.int .i64 (bX xs i).f0)∧w.cell? ⟨(ad.add (i.toNat*3)).block,(ad.add (i.toNat*3)).off+1,none⟩=some (.int .i64 (bX xs i).f1)∧w.cell? ⟨(ad.add (i.toNat*3)).block,(ad.add (i.toNat*3)).off+2,none⟩=some (.int .i64 (bX xs i).f2):=by
 obtain⟨ad,c,e,_,hK,hc0⟩:=Kd.zf h vD i h0 h1;have hc: ∀j u,c[j]? =some u→w.cell? (ad.add (i.toNat*3+j))=some u:=hc0;obtain rfl:=adv hK;exact⟨ad,e,hc 0 _ rfl,by rw[←mA _ _ 1 (by omega)];exact hc 1 _ rfl,by rw[←mA _ _ 2 (by omega)];exact hc 2 _ rfl⟩
def n4(xs:List (List aj))(i:Int):(List aj):=xs.getD i.toNat ([]:List aj)
theorem Yq{w:World}{A:Option Addr}{n:Nat}{xs:List (List aj)}(h:Kd.C (Kd.slice 98 bw) w A n xs)(i:Int)(h0:0≤i)(h1:i<n): ∃ad A0 c0,A=some ad∧w.cell? (ad.add i.toNat)=some (.slice A0 (n4 xs i).length c0)∧(n4 xs i).length≤c0∧bw.C w A0 (n4 xs i).length (n4 xs i):=by
 obtain⟨ad,c,e,_,hK,hc0⟩:=Kd.zf h ([]:List aj) i h0 h1;have hc: ∀j u,c[j]? =some u→w.cell? (ad.add (i.toNat*1+j))=some u:=hc0;obtain⟨A0,c0,rfl,l0,g0⟩:=hK;exact⟨ad,A0,c0,e,by have hq:=hc 0 _ rfl;rwa [Nat.mul_one,Nat.add_zero]at hq,l0,g0⟩
structure aG where
 f0:Int
 f1:(List Int)
 f2:(List aj)
def ep:aG:=⟨(0:Int),([]:List Int),([]:List aj)⟩
def cX:Kd aG:=Kd.yM (Kd.pair (Kd.int .i64) (Kd.pair (Kd.slice 3 (Kd.int .i64)) (Kd.slice 98 bw))) (fun x:aG=>(x.f0,x.f1,x.f2))
theorem MH{w:World}{x:aG}{cs:List Value}(h:cX.K w x cs): ∃A1 c1 A2 c2,cs= [.int .i64 x.f0,.slice A1 x.f1.length c1,.slice A2 x.f2.length c2]∧x.f1.length≤c1∧(Kd.int .i64).C w A1 x.f1.length x.f1∧x.f2.length≤c2∧bw.C w A2 x.f2.length x.f2:=by
 obtain⟨_,_,rfl,rfl,⟨_,_,rfl,⟨A1,c1,rfl,l1,g1⟩,⟨A2,c2,rfl,l2,g2⟩⟩⟩:=h;exact⟨A1,c1,A2,c2,rfl,l1,g1,l2,g2⟩
theorem Jq{w:World}{base:Nat}{ok:Nat→Prop}{x:aG}{cs:List Value}(h:cX.M w base ok x cs): ∃v1 v2,cs= [.int .i64 x.f0,v1,v2]∧(Kd.int .i64).R 3 w base ok v1 x.f1∧bw.R 98 w base ok v2 x.f2:=by
 obtain⟨_,_,rfl,rfl,⟨_,_,rfl,⟨v1,rfl,g1⟩,⟨v2,rfl,g2⟩⟩⟩:=h;exact⟨v1,v2,rfl,g1,g2⟩
theorem aqu(w:World)(x:aG){A1:Option Addr}{c1:Nat}(l1:x.f1.length≤c1)(g1:(Kd.int .i64).C w A1 x.f1.length x.f1){A2:Option Addr}{c2:Nat}(l2:x.f2.length≤c2)(g2:bw.C w A2 x.f2.length x.f2):cX.K w x [.int .i64 x.f0,.slice A1 x.f1.length c1,.slice A2 x.f2.length c2]:=⟨[.int .i64 x.f0],[.slice A1 x.f1.length c1,.slice A2 x.f2.length c2],rfl,rfl,⟨[.slice A1 x.f1.length c1],[.slice A2 x.f2.length c2],rfl,⟨A1,c1,rfl,l1,g1⟩,⟨A2,c2,rfl,l2,g2⟩⟩⟩
theorem DF(w:World)(base:Nat)(ok:Nat→Prop)(x:aG){v1:Value}(g1:(Kd.int .i64).R 3 w base ok v1 x.f1){v2:Value}(g2:bw.R 98 w base ok v2 x.f2):cX.M w base ok x [.int .i64 x.f0,v1,v2]:=⟨[.int .i64 x.f0],[v1,v2],rfl,rfl,⟨[v1],[v2],rfl,⟨v1,rfl,g1⟩,⟨v2,rfl,g2⟩⟩⟩
theorem MI{W:World}{ok:Nat→Prop}{x:aG}{cs:List Value}(h:Kd.FK cX W ok x cs): ∃A1 c1 A2 c2,cs= [.int .i64 x.f0,.slice A1 x.f1.length c1,.slice A2 x.f2.length c2]∧x.f1.length≤c1∧Kd.F (Kd.int .i64) W ok A1 x.f1.length x.f1∧x.f2.length≤c2∧Kd.F bw W ok A2 x.f2.length x.f2:=by
 obtain⟨A1,c1,A2,c2,rfl,l1,_,l2,_⟩:=MH (Kd.Cv h);exact⟨A1,c1,A2,c2,rfl,l1,(fun W' hW=>by obtain⟨Wk,YT,Wp,YV,he,MJ,FV,MK,Db⟩:=MH (h W' hW);injection (Option.some.inj (show some (Value.slice A1 x.f1.length c1)=some (Value.slice Wk x.f1.length YT) from congrArg (fun l=>l[1]?) he))with Ry _ _;rw[Ry];exact FV),l2,(fun W' hW=>by obtain⟨Wk,YT,Wp,YV,he,MJ,FV,MK,Db⟩:=MH (h W' hW);injection (Option.some.inj (show some (Value.slice A2 x.f2.length c2)=some (Value.slice Wp x.f2.length YV) from congrArg (fun l=>l[2]?) he))with Ry _ _;rw[Ry];exact Db)⟩
theorem aqv(W:World)(ok:Nat→Prop)(x:aG){A1:Option Addr}{c1:Nat}(l1:x.f1.length≤c1)(g1:Kd.F (Kd.int .i64) W ok A1 x.f1.length x.f1){A2:Option Addr}{c2:Nat}(l2:x.f2.length≤c2)(g2:Kd.F bw W ok A2 x.f2.length x.f2):Kd.FK cX W ok x [.int .i64 x.f0,.slice A1 x.f1.length c1,.slice A2 x.f2.length c2]:=fun W2 hW=>aqu W2 x l1 (g1 W2 hW) l2 (g2 W2 hW)
def av(xs:List aG)(i:Int):aG:=xs.getD i.toNat ep
theorem gw{w:World}{A:Option Addr}{n:Nat}{xs:List aG}(h:Kd.C cX w A n xs)(i:Int)(h0:0≤i)(h1:i<n): ∃ad A1 c1 A2 c2,A=some ad∧w.cell? (ad.add (i.toNat*3))=some (.int .i64 (av xs i).f0)∧w.cell? ⟨(ad.add (i.toNat*3)).block,(ad.add (i.toNat*3)).off+1,none⟩=some (.slice A1 (av xs i).f1.length c1)∧w.cell? ⟨(ad.add (i.toNat*3)).block,(ad.add (i.toNat*3)).off+2,none⟩=some (.slice A2 (av xs i).f2.length c2)∧(av xs i).f1.length≤c1∧(Kd.int .i64).C w A1 (av xs i).f1.length (av xs i).f1∧(av xs i).f2.length≤c2∧bw.C w A2 (av xs i).f2.length (av xs i).f2:=by
 obtain⟨ad,c,e,_,hK,hc0⟩:=Kd.zf h ep i h0 h1;have hc: ∀j u,c[j]? =some u→w.cell? (ad.add (i.toNat*3+j))=some u:=hc0;obtain⟨A1,c1,A2,c2,rfl,l1,g1,l2,g2⟩:=MH hK;exact⟨ad,A1,c1,A2,c2,e,hc 0 _ rfl,by rw[←mA _ _ 1 (by omega)];exact hc 1 _ rfl,by rw[←mA _ _ 2 (by omega)];exact hc 2 _ rfl,l1,g1,l2,g2⟩
structure dI where
 f0:aQ
 f1:Int
 f2:Int
def y8:dI:=⟨vD,(0:Int),(0:Int)⟩
def mJ:Kd dI:=Kd.yM (Kd.pair iR (Kd.pair (Kd.int .i64) (Kd.int .i64))) (fun x:dI=>(x.f0,x.f1,x.f2))
theorem aqs{w:World}{x:dI}{cs:List Value}(h:mJ.K w x cs):cs= [.int .i64 x.f0.f0,.int .i64 x.f0.f1,.int .i64 x.f0.f2,.int .i64 x.f1,.int .i64 x.f2]:=by
 obtain⟨_,_,rfl,s0,⟨_,_,rfl,rfl,rfl⟩⟩:=h;obtain rfl:=adv s0;exact rfl
theorem Jp{w:World}{base:Nat}{ok:Nat→Prop}{x:dI}{cs:List Value}(h:mJ.M w base ok x cs):cs= [.int .i64 x.f0.f0,.int .i64 x.f0.f1,.int .i64 x.f0.f2,.int .i64 x.f1,.int .i64 x.f2]:=by
 obtain⟨_,_,rfl,s0,⟨_,_,rfl,rfl,rfl⟩⟩:=h;obtain rfl:=Uq s0;exact rfl
theorem MG(w:World)(base:Nat)(ok:Nat→Prop)(x:dI):mJ.M w base ok x [.int .i64 x.f0.f0,.int .i64 x.f0.f1,.int .i64 x.f0.f2,.int .i64 x.f1,.int .i64 x.f2]:=⟨[.int .i64 x.f0.f0,.int .i64 x.f0.f1,.int .i64 x.f0.f2],[.int .i64 x.f1,.int .i64 x.f2],rfl,(AP w base ok x.f0),⟨[.int .i64 x.f1],[.int .i64 x.f2],rfl,rfl,rfl⟩⟩
def ax(xs:List dI)(i:Int):dI:=xs.getD i.toNat y8
theorem Fe{w:World}{A:Option Addr}{n:Nat}{xs:List dI}(h:Kd.C mJ w A n xs)(i:Int)(h0:0≤i)(h1:i<n): ∃ad,A=some ad∧w.cell? (ad.add (i.toNat*5))=some (.int .i64 (ax xs i).f0.f0)∧w.cell? ⟨(ad.add (i.toNat*5)).block,(ad.add (i.toNat*5)).off+1,none⟩=some (.int .i64 (ax xs i).f0.f1)∧w.cell? ⟨(ad.add (i.toNat*5)).block,(ad.add (i.toNat*5)).off+2,none⟩=some (.int .i64 (ax xs i).f0.f2)∧w.cell? ⟨(ad.add (i.toNat*5)).block,(ad.add (i.toNat*5)).off+3,none⟩=some (.int .i64 (ax xs i).f1)∧w.cell? ⟨(ad.add (i.toNat*5)).block,(ad.add (i.toNat*5)).off+4,none⟩=some (.int .i64 (ax xs i).f2):=by
 obtain⟨ad,c,e,_,hK,hc0⟩:=Kd.zf h y8 i h0 h1;have hc: ∀j u,c[j]? =some u→w.cell? (ad.add (i.toNat*5+j))=some u:=hc0;obtain rfl:=aqs hK;exact⟨ad,e,hc 0 _ rfl,by rw[←mA _ _ 1 (by omega)];exact hc 1 _ rfl,by rw[←mA _ _ 2 (by omega)];exact hc 2 _ rfl,by rw[←mA _ _ 3 (by omega)];exact hc 3 _ rfl,by rw[←mA _ _ 4 (by omega)];exact hc 4 _ rfl⟩
def DJ.f(l0:List Int)(a1:Int):Option (Int):=if(wrap64 (a1-(l0.length:Int)))<0 then(some (-1))else(some (wrap64 (a1-(l0.length:Int))))
theorem DJ.calls(A0:Option Addr)(c0:Nat)(l0:List Int)(a1:Int)(r:Int)(w:World)(bK:Kd.C (Kd.int .i64) w A0 l0.length l0)(hc0:l0.length≤c0)(h:DJ.f l0 a1=some r):
  Calls Try.prog 94 #[.slice A0 l0.length c0,.int .i64 a1] w fun e w'=>e= .returned (.int .i64 r)∧bM w w':=by
 have bt:=af.mk bK;have cF:=af.mk hc0;clear bK hc0;have H:(if(wrap64 (a1-(l0.length:Int)))<0 then(some (-1))else(some (wrap64 (a1-(l0.length:Int)))))=some r:=h;clear h;by_cases c3:(wrap64 (a1-(l0.length:Int)))<0
 ·rw[if_pos c3]at H;have cZ:decide ((wrap64 (a1-(l0.length:Int)))<0)=true:=decide_eq_true c3;clear c3;obtain rfl:=Option.some.inj H;go_enter Try.func94,Try.ntmps94;go_wp2;go_ret;exact⟨by first|rfl|(simp;done)|(simp[*];done),by repeat (first|exact bM.refl _|apply bM.step)⟩
 ·rw[if_neg c3]at H;have cZ:decide ((wrap64 (a1-(l0.length:Int)))<0)=false:=decide_eq_false c3;clear c3;obtain rfl:=Option.some.inj H;go_enter Try.func94,Try.ntmps94;go_wp2;go_ret;exact⟨by first|rfl|(simp;done)|(simp[*];done),by repeat (first|exact bM.refl _|apply bM.step)⟩
def DI.f(l0:List (jM))(a1:Int):Option (Int):=if(wrap64 (a1-(l0.length:Int)))<0 then(some (-1))else(some (wrap64 (a1-(l0.length:Int))))
theorem DI.calls(A0:Option Addr)(c0:Nat)(l0:List (jM))(a1:Int)(r:Int)(w:World)(bK:Kd.C tO w A0 l0.length l0)(hc0:l0.length≤c0)(h:DI.f l0 a1=some r):
  Calls Try.prog 95 #[.slice A0 l0.length c0,.int .i64 a1] w fun e w'=>e= .returned (.int .i64 r)∧bM w w':=by
 have bt:=af.mk bK;have cF:=af.mk hc0;clear bK hc0;have H:(if(wrap64 (a1-(l0.length:Int)))<0 then(some (-1))else(some (wrap64 (a1-(l0.length:Int)))))=some r:=h;clear h;by_cases c3:(wrap64 (a1-(l0.length:Int)))<0
 ·rw[if_pos c3]at H;have cZ:decide ((wrap64 (a1-(l0.length:Int)))<0)=true:=decide_eq_true c3;clear c3;obtain rfl:=Option.some.inj H;go_enter Try.func95,Try.ntmps95;go_wp2;go_ret;exact⟨by first|rfl|(simp;done)|(simp[*];done),by repeat (first|exact bM.refl _|apply bM.step)⟩
 ·rw[if_neg c3]at H;have cZ:decide ((wrap64 (a1-(l0.length:Int)))<0)=false:=decide_eq_false c3;clear c3;obtain rfl:=Option.some.inj H;go_enter Try.func95,Try.ntmps95;go_wp2;go_ret;exact⟨by first|rfl|(simp;done)|(simp[*];done),by repeat (first|exact bM.refl _|apply bM.step)⟩
def AX.f(au:Int)(aq:List Int)(ag:List (jM))(a1:Int):Option (Int):=(DJ.f aq a1).bind fun t102=>(if t102<0 then(some (-1))else((DI.f ag t102).bind fun t103=>(if t103<0 then(some (-1))else(some t103))))
theorem AX.calls(au:Int)(bB:Option Addr)(bC:Nat)(aq:List Int)(bH:Option Addr)(br:Nat)(ag:List (jM))(a1:Int)(r:Int)(w:World)(eR:Kd.C (Kd.int .i64) w bB aq.length aq)(fj:aq.length≤bC)(fk:Kd.C tO w bH ag.length ag)(fN:ag.length≤br)(h:AX.f au aq ag a1=some r):
  Calls Try.prog 37 #[.agg #[.int .i64 au,.slice bB aq.length bC,.slice bH ag.length br],.int .i64 a1] w fun e w'=>e= .returned (.int .i64 r)∧Below w.heap.size w w':=by
 have Tp:=Try.underlying58;have eZ:=af.mk eR;have iB:=af.mk fj;clear eR fj;have fu:=af.mk fk;have jY:=af.mk fN;clear fk fN;have HB:=af.mk (Below.refl w.heap.size w);have H:((DJ.f aq a1).bind fun t102=>(if t102<0 then(some (-1))else((DI.f ag t102).bind fun t103=>(if t103<0 then(some (-1))else(some t103)))))=some r:=h;clear h;replace H:=Option.bind_eq_some_iff.mp H;obtain⟨t102,jW,H⟩:=H;(try dsimp only at H);have A3:=af.mk jW;clear jW;by_cases c4:t102<0;focus
  rw[if_pos c4]at H;have dD:decide (t102<0)=true:=decide_eq_true c4;clear c4;obtain rfl:=Option.some.inj H
 rotate_left;focus
  rw[if_neg c4]at H;have dD:decide (t102<0)=false:=decide_eq_false c4;clear c4;replace H:=Option.bind_eq_some_iff.mp H;obtain⟨t103,qX,H⟩:=H;(try dsimp only at H);have A7:=af.mk qX;clear qX;by_cases c8:t103<0;focus
   rw[if_pos c8]at H;have uV:decide (t103<0)=true:=decide_eq_true c8;clear c8;obtain rfl:=Option.some.inj H
  rotate_left;focus
   rw[if_neg c8]at H;have uV:decide (t103<0)=false:=decide_eq_false c8;clear c8;obtain rfl:=Option.some.inj H
  rotate_left
 rotate_left 2;(all_goals go_enter Try.func37,Try.ntmps37);all_goals go_wp2_with (first|((with_reducible refine bP (N:=2) rfl ?_);refine bx (cs:= #[.int .i64 au,.slice bB aq.length bC,.slice bH ag.length br]) (t:=58) fun avy hg w5 az hb=>?_;have afD:=af.mk (az);have atD:=af.mk (gs HB.1 hg);have as1:=af.mk (gs HB.1 hg);replace HB:=af.mk (aE (bl HB.1) hb);clear hb az hg;obtain⟨R9,Sb,Sc,S0,S1,S3⟩:=bL afD.1)|((with_reducible refine b8 (f:=94) rfl ?_);refine b9 (some 8) rfl rfl Try.func94 (by kernel_rfl) rfl #[.slice bB aq.length bC,.int .i64 a1] rfl cl ?_;(with_reducible refine(DJ.calls _ _ aq a1 t102 _ ?aT ?aU A3.1).mono ?_);(case aT=>exact cb (Kd.bz eZ.1 HB.1));(case aU=>exact iB.1);rintro e w' ⟨rfl,⟨nd,rfl⟩⟩;refine⟨_,rfl,?_⟩)|((with_reducible refine b8 (f:=95) rfl ?_);refine b9 (some 14) rfl rfl Try.func95 (by kernel_rfl) rfl #[.slice bH ag.length br,.int .i64 t102] rfl cl ?_;(with_reducible refine(DI.calls _ _ ag t102 t103 _ ?aT ?aU A7.1).mono ?_);(case aT=>exact cb ((Kd.bz fu.1 (bl HB.1))));(case aU=>exact jY.1);rintro e w' ⟨rfl,⟨nd,rfl⟩⟩;refine⟨_,rfl,?_⟩))
 ·go_ret;exact⟨by first|rfl|(simp[aX,aY]<;>rfl)|(simp[*,aX,aY]<;>rfl),bl HB.1⟩
 ·go_ret;exact⟨by first|rfl|(simp[aX,aY]<;>rfl)|(simp[*,aX,aY]<;>rfl),bl HB.1⟩
 ·go_ret;exact⟨by first|rfl|(simp[aX,aY]<;>rfl)|(simp[*,aX,aY]<;>rfl),bl HB.1⟩
def lY.l0:Nat→List (iM)→Int→Int→Option (Int)
 |0,_,_,_=>none
 |k+1,x0,x1,x5=>if x5<(x0.length:Int)then(if 0≤x5 then((AX.f ((gD x0 x5).f0) ((gD x0 x5).f1) ((gD x0 x5).f2) x1).bind fun t105=>(if t105<0 then(some (-1))else(lY.l0 k x0 t105 (wrap64 (x5+1)))))else(none))else(some x1)
def lY.f(k:Nat)(l0:List (iM))(a1:Int):Option (Int):=if(wrap64 (a1-(l0.length:Int)))<0 then(some (-1))else(lY.l0 k l0 (wrap64 (a1-(l0.length:Int))) 0)
theorem lY.calls(k:Nat)(A0:Option Addr)(c0:Nat)(l0:List (iM))(a1:Int)(r:Int)(w:World)(bK:Kd.C AQ w A0 l0.length l0)(hc0:l0.length≤c0)(h:lY.f k l0 a1=some r):
  Calls Try.prog 15 #[.slice A0 l0.length c0,.int .i64 a1] w fun e w'=>e= .returned (.int .i64 r)∧Below w.heap.size w w':=by
 have Tp:=Try.underlying58;have bt:=af.mk bK;have cF:=af.mk hc0;clear bK hc0;have HB:=af.mk (Below.refl w.heap.size w);have H:(if(wrap64 (a1-(l0.length:Int)))<0 then(some (-1))else(lY.l0 k l0 (wrap64 (a1-(l0.length:Int))) 0))=some r:=h;clear h;by_cases c3:(wrap64 (a1-(l0.length:Int)))<0
 ·rw[if_pos c3]at H;have cZ:decide ((wrap64 (a1-(l0.length:Int)))<0)=true:=decide_eq_true c3;clear c3;obtain rfl:=Option.some.inj H;go_enter Try.func15,Try.ntmps15;go_wp2;go_ret;exact⟨by first|rfl|(simp[aX,aY]<;>rfl)|(simp[*,aX,aY]<;>rfl),bl HB.1⟩
 ·rw[if_neg c3]at H;have cZ:decide ((wrap64 (a1-(l0.length:Int)))<0)=false:=decide_eq_false c3;clear c3;have H':=af.mk H;clear H;go_enter Try.func15,Try.ntmps15;go_wp2;go_loopg [1,5] k (fun kq v1 v5 w'=> ∃(bh:Int) (ai:Int),v1= .int .i64 bh∧v5= .int .i64 ai∧af (lY.l0 kq l0 bh ai=some r)∧af (kq≤k)∧af (Below w.heap.size w w'));case atStart=>exact⟨(wrap64 (a1-(l0.length:Int))),(0),(by first|rfl|(simp;done)|(simp[*];done)),(by first|rfl|(simp;done)|(simp[*];done)),H',⟨Nat.le_refl _⟩,⟨bl HB.1⟩⟩
  case round=>
   clear H';(try clear c1);(try clear p2);(try clear c3);(try clear cZ);obtain⟨bh,ai,rfl,rfl,HA,bp,HB⟩:=hrel;cases gk with
   |zero=>exact absurd HA.1 (by simp[lY.l0])
   |succ k1=>
    have H:=HA.1;clear HA;simp only[lY.l0]at H;by_cases c4:ai<(l0.length:Int)
    ·rw[if_pos c4]at H;have dD:decide (ai<(l0.length:Int))=true:=decide_eq_true c4;clear c4;by_cases c5:0≤ai
     ·rw[if_pos c5]at H;have ic:decide (0≤ai)=true:=decide_eq_true c5;clear c5;replace H:=Option.bind_eq_some_iff.mp H;obtain⟨t105,jq,H⟩:=H;(try dsimp only at H);have A6:=af.mk jq;clear jq;by_cases c7:t105<0
      ·rw[if_pos c7]at H;have lO:decide (t105<0)=true:=decide_eq_true c7;clear c7;obtain rfl:=Option.some.inj H;have AY:0≤(ai:Int):=of_decide_eq_true ay;have Bs:ai<(l0.length:Int):=of_decide_eq_true ay;obtain⟨aiE,NT,P7,NU,P8,QB,Ar,Av,Ay,Hg,GR,Hh,GS⟩:=PW bt.1 ai AY Bs;cases QB;replace Ar:=(HB.1.cell (World.block_lt_of_cell? w _ Ar)).trans Ar;replace Av:=(HB.1.cell (World.block_lt_of_cell? w _ Av)).trans Av;replace Ay:=(HB.1.cell (World.block_lt_of_cell? w _ Ay)).trans Ay;have O0:=af.mk GR;have Oo:=af.mk Hg;clear GR Hg;have O1:=af.mk GS;have Oq:=af.mk Hh;clear GS Hh;replace AY:=eq_true AY;replace Bs:=eq_true Bs;go_wp2_with (first|((with_reducible refine b8 (f:=37) rfl ?_);refine b9 (some 23) rfl rfl Try.func37 (by kernel_rfl) rfl #[.agg #[.int .i64 ((gD l0 ai).f0),.slice NT ((gD l0 ai).f1).length P7,.slice NU ((gD l0 ai).f2).length P8],.int .i64 bh] rfl cl ?_;(with_reducible refine(AX.calls ((gD l0 ai).f0) _ _ ((gD l0 ai).f1) _ _ ((gD l0 ai).f2) bh t105 _ ?aT ?aU ?cR ?cS A6.1).mono ?_);(case aT=>exact cb (Kd.bz O0.1 HB.1));(case aU=>exact Oo.1);(case cR=>exact cb (Kd.bz O1.1 HB.1));(case cS=>exact Oq.1);rintro e w8 ⟨rfl,hb⟩;refine⟨_,rfl,?_⟩;replace HB:=af.mk (aE (bl HB.1) hb);(try clear hb);(try clear cj);(try clear hk);(try clear hi)));go_ret;exact⟨by first|rfl|(simp[aX,aY]<;>rfl)|(simp[*,aX,aY]<;>rfl),bl HB.1⟩
      ·rw[if_neg c7]at H;have lO:decide (t105<0)=false:=decide_eq_false c7;clear c7;have H':=af.mk H;clear H;have AY:0≤(ai:Int):=of_decide_eq_true ay;have Bs:ai<(l0.length:Int):=of_decide_eq_true ay;obtain⟨aiE,NT,P7,NU,P8,QB,Ar,Av,Ay,Hg,GR,Hh,GS⟩:=PW bt.1 ai AY Bs;cases QB;replace Ar:=(HB.1.cell (World.block_lt_of_cell? w _ Ar)).trans Ar;replace Av:=(HB.1.cell (World.block_lt_of_cell? w _ Av)).trans Av;replace Ay:=(HB.1.cell (World.block_lt_of_cell? w _ Ay)).trans Ay;have O0:=af.mk GR;have Oo:=af.mk Hg;clear GR Hg;have O1:=af.mk GS;have Oq:=af.mk Hh;clear GS Hh;replace AY:=eq_true AY;replace Bs:=eq_true Bs;go_wp2_with (first|((with_reducible refine b8 (f:=37) rfl ?_);refine b9 (some 23) rfl rfl Try.func37 (by kernel_rfl) rfl #[.agg #[.int .i64 ((gD l0 ai).f0),.slice NT ((gD l0 ai).f1).length P7,.slice NU ((gD l0 ai).f2).length P8],.int .i64 bh] rfl cl ?_;(with_reducible refine(AX.calls ((gD l0 ai).f0) _ _ ((gD l0 ai).f1) _ _ ((gD l0 ai).f2) bh t105 _ ?aT ?aU ?cR ?cS A6.1).mono ?_);(case aT=>exact cb (Kd.bz O0.1 HB.1));(case aU=>exact Oo.1);(case cR=>exact cb (Kd.bz O1.1 HB.1));(case cS=>exact Oq.1);rintro e w9 ⟨rfl,hb⟩;refine⟨_,rfl,?_⟩;replace HB:=af.mk (aE (bl HB.1) hb);(try clear hb);(try clear cj);(try clear hk);(try clear hi)));go_roundg k1;case measure=>have:=bp.1;omega
       case rel=>exact⟨(t105),(wrap64 (ai+1)),(by first|rfl|(simp;done)|(simp[*];done)),(by first|rfl|(simp;done)|(simp[*];done)),H',⟨by have:=bp.1;omega⟩,⟨bl HB.1⟩⟩
     ·rw[if_neg c5]at H;exact absurd H (by simp)
    ·rw[if_neg c4]at H;have dD:decide (ai<(l0.length:Int))=false:=decide_eq_false c4;clear c4;obtain rfl:=Option.some.inj H;go_wp2;go_ret;exact⟨by first|rfl|(simp[aX,aY]<;>rfl)|(simp[*,aX,aY]<;>rfl),bl HB.1⟩
def fq.f(a0:Int)(a1:Int)(a2:Int):Option (Bool):=if a0≥a1 then(some (decide (a0≤a2)))else(some false)
theorem fq.calls(a0:Int)(a1:Int)(a2:Int)(r:Bool)(w:World)(h:fq.f a0 a1 a2=some r):
  Calls Try.prog 84 #[.int .i64 a0,.int .i64 a1,.int .i64 a2] w fun e w'=>e= .returned (.bool r)∧bM w w':=by
 have H:(if a0≥a1 then(some (decide (a0≤a2)))else(some false))=some r:=h;clear h;by_cases c4:a0≥a1
 ·rw[if_pos c4]at H;have dD:decide (a1≤a0)=true:=decide_eq_true c4;clear c4;obtain rfl:=Option.some.inj H;go_enter Try.func84,Try.ntmps84;go_wp2;go_ret;exact⟨by first|rfl|(simp;done)|(simp[*];done),by repeat (first|exact bM.refl _|apply bM.step)⟩
 ·rw[if_neg c4]at H;have dD:decide (a1≤a0)=false:=decide_eq_false c4;clear c4;obtain rfl:=Option.some.inj H;go_enter Try.func84,Try.ntmps84;go_wp2;go_ret;exact⟨by first|rfl|(simp;done)|(simp[*];done),by repeat (first|exact bM.refl _|apply bM.step)⟩
mutual
def fH.l0:Nat→Int→Int→Int→List Int→List (aj)→Option (Bool)
 |0,_,_,_,_,_=>none
 |k+1,x3,x4,vv,xE,jc=>if x4<(jc.length:Int)then(if 0≤x4 then(if((ah jc x4).f0)=x3 then((fq.f ((ah jc x4).f1) 1 24).bind fun t109=>(if t109=true then((fq.f ((ah jc x4).f2) 0 999).bind fun t110=>(fH.j1 k x3 x4 (!t110) vv xE jc ((ah jc x4).f0) ((ah jc x4).f1) ((ah jc x4).f2) ((ah jc x4).f3)))else(fH.j1 k x3 x4 true vv xE jc ((ah jc x4).f0) ((ah jc x4).f1) ((ah jc x4).f2) ((ah jc x4).f3))))else(fH.j1 k x3 x4 true vv xE jc ((ah jc x4).f0) ((ah jc x4).f1) ((ah jc x4).f2) ((ah jc x4).f3)))else(none))else(if(jc.length:Int)>0 then(some (x3==vv))else(some false))
def fH.j1:Nat→Int→Int→Bool→Int→List Int→List (aj)→Int→Int→Int→Bool→Option (Bool)
 |0,_,_,_,_,_,_,_,_,_,_=>none
 |k+1,x3,x4,x34,vv,xE,jc,ND,D7,D8,NF=>if x34=true then(some false)else(fH.l1 k x3 x4 0 vv xE jc ND D7 D8 NF)
def fH.l1:Nat→Int→Int→Int→Int→List Int→List (aj)→Int→Int→Int→Bool→Option (Bool)
 |0,_,_,_,_,_,_,_,_,_,_=>none
 |k+1,x3,x4,x6,vv,xE,jc,ND,D7,D8,NF=>if x6<x4 then(if D8>0 then(if 0≤x6 then(if x6<(jc.length:Int)then(if((ah jc x6).f2)=D8 then(some false)else(fH.l1 k x3 x4 (wrap64 (x6+1)) vv xE jc ND D7 D8 NF))else(none))else(none))else(fH.l1 k x3 x4 (wrap64 (x6+1)) vv xE jc ND D7 D8 NF))else(if(wrap64 (x3+D7))>24 then(some false)else(fH.l0 k (wrap64 (x3+D7)) (wrap64 (x4+1)) vv xE jc))
end
def fH.f(k:Nat)(au:Int)(aq:List Int)(ag:List (aj)):Option (Bool):=fH.l0 k 0 0 au aq ag
theorem fH.calls(k:Nat)(au:Int)(bB:Option Addr)(bC:Nat)(aq:List Int)(bH:Option Addr)(br:Nat)(ag:List (aj))(r:Bool)(w:World)(eR:Kd.C (Kd.int .i64) w bB aq.length aq)(fj:aq.length≤bC)(fk:Kd.C bw w bH ag.length ag)(fN:ag.length≤br)(h:fH.f k au aq ag=some r):
  Calls Try.prog 119 #[.agg #[.int .i64 au,.slice bB aq.length bC,.slice bH ag.length br]] w fun e w'=>e= .returned (.bool r)∧Below w.heap.size w w':=by
 have jR:=Try.underlying41;have wE:=Try.underlying98;have eZ:=af.mk eR;have iB:=af.mk fj;clear eR fj;have fu:=af.mk fk;have jY:=af.mk fN;clear fk fN;have HB:=af.mk (Below.refl w.heap.size w);have H:(fH.l0 k 0 0 au aq ag)=some r:=h;clear h;have H':=af.mk H;clear H;go_enter Try.func119,Try.ntmps119;go_wp2_with (first|((with_reducible refine bP (N:=1) rfl ?_);refine bx (cs:= #[.int .i64 au,.slice bB aq.length bC,.slice bH ag.length br]) (t:=41) fun FY hg w2 az hb=>?_;have iA:=af.mk (az);have WM:=af.mk (gs HB.1 hg);have WI:=af.mk (gs HB.1 hg);replace HB:=af.mk (aE (bl HB.1) hb);clear hb az hg));(repeat (go_quiet (first|((with_reducible refine bP (N:=1) rfl ?_);refine bx (cs:= #[.int .i64 au,.slice bB aq.length bC,.slice bH ag.length br]) (t:=41) fun FY hg w2 az hb=>?_;have iA:=af.mk (az);have WM:=af.mk (gs HB.1 hg);have WI:=af.mk (gs HB.1 hg);replace HB:=af.mk (aE (bl HB.1) hb);clear hb az hg));try go_wp2_with (first|((with_reducible refine bP (N:=1) rfl ?_);refine bx (cs:= #[.int .i64 au,.slice bB aq.length bC,.slice bH ag.length br]) (t:=41) fun FY hg w2 az hb=>?_;have iA:=af.mk (az);have WM:=af.mk (gs HB.1 hg);have WI:=af.mk (gs HB.1 hg);replace HB:=af.mk (aE (bl HB.1) hb);clear hb az hg))));go_loopg [3,4] k (fun kq v3 v4 w'=> ∃(aA:Int) (ak:Int),v3= .int .i64 aA∧v4= .int .i64 ak∧af (fH.l0 kq aA ak au aq ag=some r)∧af (kq≤k)∧af (w'.heap[FY]? =some (.cells #[.int .i64 au,(.slice bB aq.length bC),(.slice bH ag.length br)] 41 (0,0)))∧af (Below w.heap.size w w'))
 case atStart=>exact⟨(0),(0),(by first|rfl|(simp;done)|(simp[*];done)),(by first|rfl|(simp;done)|(simp[*];done)),H',⟨Nat.le_refl _⟩,⟨by refine bk ?_;exact iA.1⟩,⟨bl HB.1⟩⟩
 case round=>
  clear H';(try clear c1);(try clear p2);obtain⟨aA,ak,rfl,rfl,HA,bp,iA,HB⟩:=hrel;cases gk with
  |zero=>exact absurd HA.1 (by simp[fH.l0])
  |succ k1=>
   have H:=HA.1;clear HA;simp only[fH.l0]at H;by_cases c3:ak<(ag.length:Int)
   ·rw[if_pos c3]at H;have cZ:decide (ak<(ag.length:Int))=true:=decide_eq_true c3;clear c3;by_cases c4:0≤ak
    ·rw[if_pos c4]at H;have dD:decide (0≤ak)=true:=decide_eq_true c4;clear c4;have OI:=af.mk H;clear H;obtain⟨R9,Sb,Sc,S0,S1,S3⟩:=bL iA.1;have Jx:0≤(ak:Int):=of_decide_eq_true ay;have JA:ak<(ag.length:Int):=of_decide_eq_true ay;obtain⟨KK,aj8,Ia,Ib,Ic,Ie⟩:=eW fu.1 ak Jx JA;cases aj8;replace Ia:=(HB.1.cell (World.block_lt_of_cell? w _ Ia)).trans Ia;replace Ib:=(HB.1.cell (World.block_lt_of_cell? w _ Ib)).trans Ib;replace Ic:=(HB.1.cell (World.block_lt_of_cell? w _ Ic)).trans Ic;replace Ie:=(HB.1.cell (World.block_lt_of_cell? w _ Ie)).trans Ie;replace Jx:=eq_true Jx;replace JA:=eq_true JA
     go_upto_region 6 with(first|((with_reducible refine bP (N:=5) rfl ?_);refine bx (cs:= #[.int .i64 0,.int .i64 0,.int .i64 0,.bool false]) (t:=98) fun Ls hg w7 az hb=>?_;have kB:=af.mk (az);have WN:=af.mk (gs HB.1 hg);have WJ:=af.mk (gs HB.1 hg);replace HB:=af.mk (aE (bl HB.1) hb);have jA:=af.mk ((nl iA.1 hg));have pQ:=af.mk ((ng iA.1 hg));replace iA:=af.mk (bb iA.1 hb);clear hb az hg;have DA:=pQ.1;have DB:=jA.1;obtain⟨m8,m9,nc,Gt,ni,nj,nr,GN⟩:=gi kB.1))
     (repeat (go_quiet (first|((with_reducible refine bP (N:=5) rfl ?_);refine bx (cs:= #[.int .i64 0,.int .i64 0,.int .i64 0,.bool false]) (t:=98) fun Ls hg w7 az hb=>?_;have kB:=af.mk (az);have WN:=af.mk (gs HB.1 hg);have WJ:=af.mk (gs HB.1 hg);replace HB:=af.mk (aE (bl HB.1) hb);have jA:=af.mk ((nl iA.1 hg));have pQ:=af.mk ((ng iA.1 hg));replace iA:=af.mk (bb iA.1 hb);clear hb az hg;have DA:=pQ.1;have DB:=jA.1;obtain⟨m8,m9,nc,Gt,ni,nj,nr,GN⟩:=gi kB.1));go_upto_region 6 with(first|((with_reducible refine bP (N:=5) rfl ?_);refine bx (cs:= #[.int .i64 0,.int .i64 0,.int .i64 0,.bool false]) (t:=98) fun Ls hg w7 az hb=>?_;have kB:=af.mk (az);have WN:=af.mk (gs HB.1 hg);have WJ:=af.mk (gs HB.1 hg);replace HB:=af.mk (aE (bl HB.1) hb);have jA:=af.mk ((nl iA.1 hg));have pQ:=af.mk ((ng iA.1 hg));replace iA:=af.mk (bb iA.1 hb);clear hb az hg;have DA:=pQ.1;have DB:=jA.1;obtain⟨m8,m9,nc,Gt,ni,nj,nr,GN⟩:=gi kB.1))));(try simp only[Act.put,List.setIfInBounds_toArray,List.set_cons_zero,List.set_cons_succ])
     go_cut [34] (fun v34 wc=> ∃(kq:Nat) (NM:Bool),v34= .bool NM∧af (fH.j1 kq aA ak NM au aq ag ((ah ag ak).f0) ((ah ag ak).f1) ((ah ag ak).f2) ((ah ag ak).f3)=some r)∧af (kq≤k1)∧af (wc.heap[FY]? =some (.cells #[.int .i64 au,(.slice bB aq.length bC),(.slice (some KK) ag.length br)] 41 (0,0)))∧af (wc.heap[Ls]? =some (.cells #[.int .i64 ((ah ag ak).f0),.int .i64 ((ah ag ak).f1),.int .i64 ((ah ag ak).f2),.bool ((ah ag ak).f3)] 98 (0,0)))∧af (Below w.heap.size w wc))
     case first=>
      have H:=OI.1;clear OI;by_cases dz:((ah ag ak).f0)=aA
      ·rw[if_pos dz]at H;have nQ:(((ah ag ak).f0)==aA)=true:=beq_iff_eq.mpr dz;have P9:(((ah ag ak).f0) !=aA)=false:=bne_eq_false_iff_eq.mpr dz;clear dz;(first|rw[nQ]|(simp only[cI,cP];rw[nQ])|skip);replace H:=Option.bind_eq_some_iff.mp H;obtain⟨t109,Ef,H⟩:=H;(try dsimp only at H);have oQ:=af.mk Ef;clear Ef;by_cases gx:t109=true
       ·subst gx;rw[if_pos rfl]at H;replace H:=Option.bind_eq_some_iff.mp H;obtain⟨t110,Wa,H⟩:=H;(try dsimp only at H);have NV:=af.mk Wa;clear Wa;have H':=af.mk H;clear H;have aoJ:=pQ.1;have ao5:=jA.1;obtain⟨Dj,Dk,Dl,LG,Dt,Du,Dv,LU⟩:=gi kB.1;go_wp2_with (first|(go_at_call 84;(with_reducible refine(fq.calls ((ah ag ak).f1) 1 24 true _ oQ.1).mono ?_);rintro e w' ⟨rfl,⟨nd,rfl⟩⟩;(try exact dd))|(go_at_call 84;(with_reducible refine(fq.calls ((ah ag ak).f2) 0 999 t110 _ NV.1).mono ?_);rintro e w' ⟨rfl,⟨nd,rfl⟩⟩;(try exact dd)));repeat (go_quiet (first|(go_at_call 84;(with_reducible refine(fq.calls ((ah ag ak).f1) 1 24 true _ oQ.1).mono ?_);rintro e w' ⟨rfl,⟨nd,rfl⟩⟩;(try exact dd))|(go_at_call 84;(with_reducible refine(fq.calls ((ah ag ak).f2) 0 999 t110 _ NV.1).mono ?_);rintro e w' ⟨rfl,⟨nd,rfl⟩⟩;(try exact dd)));try go_wp2_with (first|(go_at_call 84;(with_reducible refine(fq.calls ((ah ag ak).f1) 1 24 true _ oQ.1).mono ?_);rintro e w' ⟨rfl,⟨nd,rfl⟩⟩;(try exact dd))|(go_at_call 84;(with_reducible refine(fq.calls ((ah ag ak).f2) 0 999 t110 _ NV.1).mono ?_);rintro e w' ⟨rfl,⟨nd,rfl⟩⟩;(try exact dd))))
        go_meet
        case rel=>exact⟨_,(!t110),(by first|rfl|(simp;done)|(simp[*];done)),H',⟨by have:=bp.1;first|omega|exact Nat.le_refl _⟩,⟨by refine bk ?_;refine bq ?_ jA.1 _;refine bk ?_;refine bq ?_ jA.1 _;refine bk ?_;refine bq ?_ jA.1 _;refine bk ?_;refine bq ?_ jA.1 _;refine bk ?_;exact iA.1⟩,⟨by refine bk ?_;refine aH (cs:= #[.int .i64 ((ah ag ak).f0),.int .i64 ((ah ag ak).f1),.int .i64 ((ah ag ak).f2),.bool false]) ?_ 3 _ rfl;refine bk ?_;refine aH (cs:= #[.int .i64 ((ah ag ak).f0),.int .i64 ((ah ag ak).f1),.int .i64 0,.bool false]) ?_ 2 _ rfl;refine bk ?_;refine aH (cs:= #[.int .i64 ((ah ag ak).f0),.int .i64 0,.int .i64 0,.bool false]) ?_ 1 _ rfl;refine bk ?_;refine aH (cs:= #[.int .i64 0,.int .i64 0,.int .i64 0,.bool false]) ?_ 0 _ rfl;refine bk ?_;exact kB.1⟩,⟨bl HB.1⟩⟩
       ·replace gx:=Bool.eq_false_iff.mpr gx;subst gx;rw[if_neg (show¬(false=true) by decide)]at H;have H':=af.mk H;clear H;have aoL:=pQ.1;have ao7:=jA.1;obtain⟨Gm,Gn,Gp,aaN,GH,GI,GJ,abt⟩:=gi kB.1;go_wp2_with (first|(go_at_call 84;(with_reducible refine(fq.calls ((ah ag ak).f1) 1 24 false _ oQ.1).mono ?_);rintro e w' ⟨rfl,⟨nd,rfl⟩⟩;(try exact dd)));repeat (go_quiet (first|(go_at_call 84;(with_reducible refine(fq.calls ((ah ag ak).f1) 1 24 false _ oQ.1).mono ?_);rintro e w' ⟨rfl,⟨nd,rfl⟩⟩;(try exact dd)));try go_wp2_with (first|(go_at_call 84;(with_reducible refine(fq.calls ((ah ag ak).f1) 1 24 false _ oQ.1).mono ?_);rintro e w' ⟨rfl,⟨nd,rfl⟩⟩;(try exact dd))))
        go_meet
        case rel=>exact⟨_,(true),(by first|rfl|(simp;done)|(simp[*];done)),H',⟨by have:=bp.1;first|omega|exact Nat.le_refl _⟩,⟨by refine bk ?_;refine bq ?_ jA.1 _;refine bk ?_;refine bq ?_ jA.1 _;refine bk ?_;refine bq ?_ jA.1 _;refine bk ?_;refine bq ?_ jA.1 _;refine bk ?_;exact iA.1⟩,⟨by refine bk ?_;refine aH (cs:= #[.int .i64 ((ah ag ak).f0),.int .i64 ((ah ag ak).f1),.int .i64 ((ah ag ak).f2),.bool false]) ?_ 3 _ rfl;refine bk ?_;refine aH (cs:= #[.int .i64 ((ah ag ak).f0),.int .i64 ((ah ag ak).f1),.int .i64 0,.bool false]) ?_ 2 _ rfl;refine bk ?_;refine aH (cs:= #[.int .i64 ((ah ag ak).f0),.int .i64 0,.int .i64 0,.bool false]) ?_ 1 _ rfl;refine bk ?_;refine aH (cs:= #[.int .i64 0,.int .i64 0,.int .i64 0,.bool false]) ?_ 0 _ rfl;refine bk ?_;exact kB.1⟩,⟨bl HB.1⟩⟩
      ·rw[if_neg dz]at H;have nQ:(((ah ag ak).f0)==aA)=false:=beq_eq_false_iff_ne.mpr dz;have P9:(((ah ag ak).f0) !=aA)=true:=bne_iff_ne.mpr dz;(first|rw[nQ]|(simp only[cI,cP];rw[nQ])|skip);have H':=af.mk H;clear H;have acH:=pQ.1;have acN:=jA.1;obtain⟨LH,LI,LJ,aaO,LV,LX,LY,abu⟩:=gi kB.1;go_wp2;repeat (go_quiet (fail);try go_wp2)
       go_meet
       case rel=>exact⟨_,(true),(by first|rfl|(simp;done)|(simp[*];done)),H',⟨by have:=bp.1;first|omega|exact Nat.le_refl _⟩,⟨by refine bk ?_;refine bq ?_ jA.1 _;refine bk ?_;refine bq ?_ jA.1 _;refine bk ?_;refine bq ?_ jA.1 _;refine bk ?_;refine bq ?_ jA.1 _;refine bk ?_;exact iA.1⟩,⟨by refine bk ?_;refine aH (cs:= #[.int .i64 ((ah ag ak).f0),.int .i64 ((ah ag ak).f1),.int .i64 ((ah ag ak).f2),.bool false]) ?_ 3 _ rfl;refine bk ?_;refine aH (cs:= #[.int .i64 ((ah ag ak).f0),.int .i64 ((ah ag ak).f1),.int .i64 0,.bool false]) ?_ 2 _ rfl;refine bk ?_;refine aH (cs:= #[.int .i64 ((ah ag ak).f0),.int .i64 0,.int .i64 0,.bool false]) ?_ 1 _ rfl;refine bk ?_;refine aH (cs:= #[.int .i64 0,.int .i64 0,.int .i64 0,.bool false]) ?_ 0 _ rfl;refine bk ?_;exact kB.1⟩,⟨bl HB.1⟩⟩
     case rest=>
      clear OI;(try clear c1);(try clear p1);(try clear q1);(try clear hx1);(try clear p2);(try clear c3);(try clear cZ);(try clear c4);(try clear dD);(try clear c8);(try clear dz);(try clear nQ);(try clear P9);(try clear u9);(try clear vl);(try clear apL);(try clear dy);(try clear gx);(try clear lM);(try clear iD);(try clear qc);(try clear Dj);(try clear Dk);(try clear Dl);(try clear LG);(try clear Gm);(try clear Gn);(try clear Gp);(try clear aaN);(try clear LH);(try clear LI);(try clear LJ);(try clear aaO);(try clear R9);(try clear Sb);(try clear Sc);(try clear m8);(try clear m9);(try clear nc);(try clear Gt);(try clear Dt);(try clear Du);(try clear Dv);(try clear LU);(try clear GH);(try clear GI);(try clear GJ);(try clear abt);(try clear LV);(try clear LX);(try clear LY);(try clear abu);(try clear S0);(try clear S1);(try clear S3);(try clear ni);(try clear nj);(try clear nr);(try clear GN);(try clear Ia);(try clear Ib);(try clear Ic);(try clear Ie);(try clear Jx);(try clear p2);(try clear JA);obtain⟨kq,NM,rfl,HA,CD,iA,kB,HB⟩:=hcut;cases kq with
      |zero=>exact absurd HA.1 (by simp[fH.j1])
      |succ kj4=>
       have H:=HA.1;clear HA;simp only[fH.j1]at H;by_cases fh:NM=true
       ·subst fh;rw[if_pos rfl]at H;obtain rfl:=Option.some.inj H;go_wp2;(repeat (go_quiet (fail);try go_wp2));go_ret;exact⟨by first|rfl|(simp[aX,aY]<;>rfl)|(simp[*,aX,aY]<;>rfl),bl HB.1⟩
       ·replace fh:=Bool.eq_false_iff.mpr fh;subst fh;rw[if_neg (show¬(false=true) by decide)]at H;have H':=af.mk H;clear H;go_wp2;(repeat (go_quiet (fail);try go_wp2));go_loopg [6] kj4 (fun kq v6 w'=> ∃(ki:Int),v6= .int .i64 ki∧af (fH.l1 kq aA ak ki au aq ag ((ah ag ak).f0) ((ah ag ak).f1) ((ah ag ak).f2) ((ah ag ak).f3)=some r)∧af (kq≤kj4)∧af (w'.heap[FY]? =some (.cells #[.int .i64 au,(.slice bB aq.length bC),(.slice (some KK) ag.length br)] 41 (0,0)))∧af (w'.heap[Ls]? =some (.cells #[.int .i64 ((ah ag ak).f0),.int .i64 ((ah ag ak).f1),.int .i64 ((ah ag ak).f2),.bool ((ah ag ak).f3)] 98 (0,0)))∧af (Below w.heap.size w w'));case atStart=>exact⟨(0),(by first|rfl|(simp;done)|(simp[*];done)),H',⟨Nat.le_refl _⟩,⟨by refine bk ?_;exact iA.1⟩,⟨by refine bk ?_;exact kB.1⟩,⟨bl HB.1⟩⟩
        case round=>
         clear H';(try clear c1);(try clear p1);(try clear q1);(try clear hx1);(try clear c2);(try clear p2);(try clear c3);(try clear cZ);(try clear c4);(try clear dD);(try clear c8);(try clear dz);(try clear nQ);(try clear P9);(try clear u9);(try clear vl);(try clear apL);(try clear dy);(try clear gx);(try clear lM);(try clear iD);(try clear qc);(try clear fh);(try clear Dj);(try clear Dk);(try clear Dl);(try clear LG);(try clear Gm);(try clear Gn);(try clear Gp);(try clear aaN);(try clear LH);(try clear LI);(try clear LJ);(try clear aaO);(try clear R9);(try clear Sb);(try clear Sc);(try clear m8);(try clear m9);(try clear nc);(try clear Gt);(try clear Dt);(try clear Du);(try clear Dv);(try clear LU);(try clear GH);(try clear GI);(try clear GJ);(try clear abt);(try clear LV);(try clear LX);(try clear LY);(try clear abu);(try clear S0);(try clear S1);(try clear S3);(try clear ni);(try clear nj);(try clear nr);(try clear GN);(try clear Ia);(try clear Ib);(try clear Ic);(try clear Ie);(try clear p1);(try clear u9);(try clear Jx);(try clear p2);(try clear q1);(try clear vl);(try clear JA);obtain⟨ki,rfl,HA,rj,iA,kB,HB⟩:=hrel;cases gk with
         |zero=>exact absurd HA.1 (by simp[fH.l1])
         |succ k3=>
          have H:=HA.1;clear HA;simp only[fH.l1]at H;by_cases jm:ki<ak
          ·rw[if_pos jm]at H;have KX:decide (ki<ak)=true:=decide_eq_true jm;clear jm;by_cases kF:((ah ag ak).f2)>0
           ·rw[if_pos kF]at H;have KY:decide (0<((ah ag ak).f2))=true:=decide_eq_true kF;clear kF;by_cases mC:0≤ki
            ·rw[if_pos mC]at H;have Qj:decide (0≤ki)=true:=decide_eq_true mC;clear mC;by_cases mZ:ki<(ag.length:Int)
             ·rw[if_pos mZ]at H;have ajn:decide (ki<(ag.length:Int))=true:=decide_eq_true mZ;clear mZ;by_cases kG:((ah ag ki).f2)=((ah ag ak).f2)
              ·rw[if_pos kG]at H;have KZ:(((ah ag ki).f2)==((ah ag ak).f2))=true:=beq_iff_eq.mpr kG;have YU:(((ah ag ki).f2) !=((ah ag ak).f2))=false:=bne_eq_false_iff_eq.mpr kG;clear kG;obtain rfl:=Option.some.inj H;have aoP:=pQ.1;have apb:=jA.1;obtain⟨aaS,aaT,aaU,awC,aby,abz,abA,ay2⟩:=gi kB.1;obtain⟨amb,amc,amd,anU,anV,anW⟩:=bL iA.1;have AZ:0≤(ki:Int):=of_decide_eq_true ay;have Bt:ki<(ag.length:Int):=of_decide_eq_true ay;obtain⟨PL,QC,Az,AA,AB,AE⟩:=eW fu.1 ki AZ Bt;obtain rfl:KK=PL:=(by injection QC);replace Az:=(HB.1.cell (World.block_lt_of_cell? w _ Az)).trans Az;replace AA:=(HB.1.cell (World.block_lt_of_cell? w _ AA)).trans AA;replace AB:=(HB.1.cell (World.block_lt_of_cell? w _ AB)).trans AB;replace AE:=(HB.1.cell (World.block_lt_of_cell? w _ AE)).trans AE;replace AZ:=eq_true AZ;replace Bt:=eq_true Bt;go_wp2;(repeat (go_quiet (fail);try go_wp2));go_ret;exact⟨by first|rfl|(simp[aX,aY]<;>rfl)|(simp[*,aX,aY]<;>rfl),bl HB.1⟩
              ·rw[if_neg kG]at H;have KZ:(((ah ag ki).f2)==((ah ag ak).f2))=false:=beq_eq_false_iff_ne.mpr kG;have YU:(((ah ag ki).f2) !=((ah ag ak).f2))=true:=bne_iff_ne.mpr kG;have H':=af.mk H;clear H;have acI:=pQ.1;have acO:=jA.1;obtain⟨aaV,aaW,aaX,amh,abB,abC,abD,an0⟩:=gi kB.1;obtain⟨aaY,aaZ,aa0,abE,abF,abG⟩:=bL iA.1;have AZ:0≤(ki:Int):=of_decide_eq_true ay;have Bt:ki<(ag.length:Int):=of_decide_eq_true ay;obtain⟨PL,QC,Az,AA,AB,AE⟩:=eW fu.1 ki AZ Bt;obtain rfl:KK=PL:=(by injection QC);replace Az:=(HB.1.cell (World.block_lt_of_cell? w _ Az)).trans Az;replace AA:=(HB.1.cell (World.block_lt_of_cell? w _ AA)).trans AA;replace AB:=(HB.1.cell (World.block_lt_of_cell? w _ AB)).trans AB;replace AE:=(HB.1.cell (World.block_lt_of_cell? w _ AE)).trans AE;replace AZ:=eq_true AZ;replace Bt:=eq_true Bt;go_wp2;(repeat (go_quiet (fail);try go_wp2));go_roundg k3;case measure=>have:=bp.1;have:=CD.1;have:=rj.1;omega
               case rel=>exact⟨(wrap64 (ki+1)),(by first|rfl|(simp;done)|(simp[*];done)),H',⟨by have:=bp.1;have:=CD.1;have:=rj.1;omega⟩,⟨by refine bk ?_;exact iA.1⟩,⟨by refine bk ?_;exact kB.1⟩,⟨bl HB.1⟩⟩
             ·rw[if_neg mZ]at H;exact absurd H (by simp)
            ·rw[if_neg mC]at H;exact absurd H (by simp)
           ·rw[if_neg kF]at H;have KY:decide (0<((ah ag ak).f2))=false:=decide_eq_false kF;clear kF;have H':=af.mk H;clear H;have acJ:=pQ.1;have acP:=jA.1;obtain⟨RQ,RR,RS,aa1,SG,SH,SI,abH⟩:=gi kB.1;go_wp2;(repeat (go_quiet (fail);try go_wp2));go_roundg k3;case measure=>have:=bp.1;have:=CD.1;have:=rj.1;omega
            case rel=>exact⟨(wrap64 (ki+1)),(by first|rfl|(simp;done)|(simp[*];done)),H',⟨by have:=bp.1;have:=CD.1;have:=rj.1;omega⟩,⟨by refine bk ?_;exact iA.1⟩,⟨by refine bk ?_;exact kB.1⟩,⟨bl HB.1⟩⟩
          ·rw[if_neg jm]at H;have KX:decide (ki<ak)=false:=decide_eq_false jm;clear jm;by_cases jN:(wrap64 (aA+((ah ag ak).f1)))>24
           ·rw[if_pos jN]at H;have YY:decide (24<(wrap64 (aA+((ah ag ak).f1))))=true:=decide_eq_true jN;clear jN;obtain rfl:=Option.some.inj H;have aoS:=pQ.1;have ape:=jA.1;obtain⟨aa2,aa3,aa4,awE,abI,abJ,abK,ay4⟩:=gi kB.1;go_wp2;(repeat (go_quiet (fail);try go_wp2));go_ret;exact⟨by first|rfl|(simp[aX,aY]<;>rfl)|(simp[*,aX,aY]<;>rfl),bl HB.1⟩
           ·rw[if_neg jN]at H;have YY:decide (24<(wrap64 (aA+((ah ag ak).f1))))=false:=decide_eq_false jN;clear jN;have H':=af.mk H;clear H;have aA0:=pQ.1;have aBT:=jA.1;obtain⟨awI,awJ,awK,awL,ay8,ay9,aza,azb⟩:=gi kB.1;go_wp2;(repeat (go_quiet (fail);try go_wp2));go_roundg k3;case measure=>have:=bp.1;have:=CD.1;have:=rj.1;omega
            case rel=>exact⟨(wrap64 (aA+((ah ag ak).f1))),(wrap64 (ak+1)),(by first|rfl|(simp;done)|(simp[*];done)),(by first|rfl|(simp;done)|(simp[*];done)),H',⟨by have:=bp.1;have:=CD.1;have:=rj.1;omega⟩,⟨by refine bk ?_;exact iA.1⟩,⟨bl HB.1⟩⟩
    ·rw[if_neg c4]at H;exact absurd H (by simp)
   ·rw[if_neg c3]at H;have cZ:decide (ak<(ag.length:Int))=false:=decide_eq_false c3;clear c3;by_cases qF:(ag.length:Int)>0
    ·rw[if_pos qF]at H;have aju:decide (0<(ag.length:Int))=true:=decide_eq_true qF;have ajv:decide (0<ag.length)=true:=decide_eq_true (by omega);clear qF;obtain rfl:=Option.some.inj H;obtain⟨aa8,aa9,abb,abO,abP,abQ⟩:=bL iA.1;go_wp2;(repeat (go_quiet (fail);try go_wp2));go_ret;exact⟨by first|rfl|(simp[aX,aY]<;>rfl)|(simp[*,aX,aY]<;>rfl),bl HB.1⟩
    ·rw[if_neg qF]at H;have aju:decide (0<(ag.length:Int))=false:=decide_eq_false qF;have ajv:decide (0<ag.length)=false:=decide_eq_false (by omega);clear qF;obtain rfl:=Option.some.inj H;obtain⟨amm,amn,amo,an5,an6,an7⟩:=bL iA.1;go_wp2;(repeat (go_quiet (fail);try go_wp2));go_ret;exact⟨by first|rfl|(simp[aX,aY]<;>rfl)|(simp[*,aX,aY]<;>rfl),bl HB.1⟩
mutual
def dQ.j0:Nat→Bool→Int→List Int→List (aj)→Option (Bool)
 |0,_,_,_,_=>none
 |k+1,mc,qV,mP,qn=>if mc=true then(some false)else(dQ.l0 k 0 qV mP qn)
def dQ.l0:Nat→Int→Int→List Int→List (aj)→Option (Bool)
 |0,_,_,_,_=>none
 |k+1,x3,qV,mP,qn=>if x3<(mP.length:Int)then(if 0≤x3 then((fq.f (rd mP x3) 1 (wrap64 (qV-1))).bind fun t116=>(if t116=true then(if x3>0 then(if 0≤(wrap64 (x3-1))then(if(wrap64 (x3-1))<(mP.length:Int)then(dQ.j2 k x3 (decide ((rd mP x3)≤(rd mP (wrap64 (x3-1))))) qV mP qn)else(none))else(none))else(dQ.j2 k x3 false qV mP qn))else(dQ.j2 k x3 true qV mP qn)))else(none))else(some true)
def dQ.j2:Nat→Int→Bool→Int→List Int→List (aj)→Option (Bool)
 |0,_,_,_,_,_=>none
 |k+1,x3,x49,qV,mP,qn=>if x49=true then(some false)else(dQ.l1 k x3 false 0 qV mP qn)
def dQ.l1:Nat→Int→Bool→Int→Int→List Int→List (aj)→Option (Bool)
 |0,_,_,_,_,_,_=>none
 |k+1,x3,x4,x5,qV,mP,qn=>if x5<(qn.length:Int)then(if x4=true then(dQ.l1 k x3 true (wrap64 (x5+1)) qV mP qn)else(if 0≤x5 then(if 0≤x3 then(if x3<(mP.length:Int)then(dQ.l1 k x3 (((ah qn x5).f0)==(rd mP x3)) (wrap64 (x5+1)) qV mP qn)else(none))else(none))else(none)))else(if x4=true then(dQ.l0 k (wrap64 (x3+1)) qV mP qn)else(some false))
end
def dQ.f(k:Nat)(au:Int)(aq:List Int)(ag:List (aj)):Option (Bool):=(fq.f au 1 24).bind fun t113=>(if t113=true then((fH.f k au aq ag).bind fun t114=>(dQ.j0 k (!t114) au aq ag))else(dQ.j0 k true au aq ag))
theorem dQ.calls(k:Nat)(au:Int)(bB:Option Addr)(bC:Nat)(aq:List Int)(bH:Option Addr)(br:Nat)(ag:List (aj))(r:Bool)(w:World)(eR:Kd.C (Kd.int .i64) w bB aq.length aq)(fj:aq.length≤bC)(fk:Kd.C bw w bH ag.length ag)(fN:ag.length≤br)(h:dQ.f k au aq ag=some r):
  Calls Try.prog 91 #[.agg #[.int .i64 au,.slice bB aq.length bC,.slice bH ag.length br]] w fun e w'=>e= .returned (.bool r)∧Below w.heap.size w w':=by
 have jR:=Try.underlying41;have eZ:=af.mk eR;have iB:=af.mk fj;clear eR fj;have fu:=af.mk fk;have jY:=af.mk fN;clear fk fN;have HB:=af.mk (Below.refl w.heap.size w);have H:((fq.f au 1 24).bind fun t113=>(if t113=true then((fH.f k au aq ag).bind fun t114=>(dQ.j0 k (!t114) au aq ag))else(dQ.j0 k true au aq ag)))=some r:=h;clear h;have xO:=af.mk H;clear H;go_enter Try.func91,Try.ntmps91
 go_upto_region 1 with(first|((with_reducible refine bP (N:=1) rfl ?_);refine bx (cs:= #[.int .i64 au,.slice bB aq.length bC,.slice bH ag.length br]) (t:=41) fun Dc hg w3 az hb=>?_;have gJ:=af.mk (az);have WO:=af.mk (gs HB.1 hg);have WK:=af.mk (gs HB.1 hg);replace HB:=af.mk (aE (bl HB.1) hb);clear hb az hg))
 (repeat (go_quiet (first|((with_reducible refine bP (N:=1) rfl ?_);refine bx (cs:= #[.int .i64 au,.slice bB aq.length bC,.slice bH ag.length br]) (t:=41) fun Dc hg w3 az hb=>?_;have gJ:=af.mk (az);have WO:=af.mk (gs HB.1 hg);have WK:=af.mk (gs HB.1 hg);replace HB:=af.mk (aE (bl HB.1) hb);clear hb az hg));go_upto_region 1 with(first|((with_reducible refine bP (N:=1) rfl ?_);refine bx (cs:= #[.int .i64 au,.slice bB aq.length bC,.slice bH ag.length br]) (t:=41) fun Dc hg w3 az hb=>?_;have gJ:=af.mk (az);have WO:=af.mk (gs HB.1 hg);have WK:=af.mk (gs HB.1 hg);replace HB:=af.mk (aE (bl HB.1) hb);clear hb az hg))));(try simp only[Act.put,List.setIfInBounds_toArray,List.set_cons_zero,List.set_cons_succ])
 go_cut [14] (fun v14 wc=> ∃(kq:Nat) (NH:Bool),v14= .bool NH∧af (dQ.j0 kq NH au aq ag=some r)∧af (kq≤k)∧af (wc.heap[Dc]? =some (.cells #[.int .i64 au,(.slice bB aq.length bC),(.slice bH ag.length br)] 41 (0,0)))∧af (Below w.heap.size w wc))
 case first=>
  have H:=xO.1;clear xO;replace H:=Option.bind_eq_some_iff.mp H;obtain⟨t113,gI,H⟩:=H;(try dsimp only at H);have A4:=af.mk gI;clear gI;by_cases c5:t113=true
  ·subst c5;rw[if_pos rfl]at H;replace H:=Option.bind_eq_some_iff.mp H;obtain⟨t114,jq,H⟩:=H;(try dsimp only at H);have A6:=af.mk jq;clear jq;have H':=af.mk H;clear H;obtain⟨rY,rZ,r6,r9,sg,si⟩:=bL gJ.1;go_wp2_with (first|(go_at_call 84;(with_reducible refine(fq.calls au 1 24 true _ A4.1).mono ?_);rintro e w' ⟨rfl,⟨nd,rfl⟩⟩;(try exact dd))|(go_at_call 119;(with_reducible refine(fH.calls k au _ _ aq _ _ ag t114 _ ?aT ?aU ?cR ?cS A6.1).mono ?_);(case aT=>exact cb ((Kd.bz eZ.1 (bl HB.1))));(case aU=>exact iB.1);(case cR=>exact cb ((Kd.bz fu.1 (bl HB.1))));(case cS=>exact jY.1);rintro e w8 ⟨rfl,hb⟩;replace gJ:=af.mk (bb gJ.1 hb);replace HB:=af.mk (aE (bl HB.1) hb);(try clear hb);(try clear cj);(try clear hk);(try clear hi)))
   repeat (go_quiet (first|(go_at_call 84;(with_reducible refine(fq.calls au 1 24 true _ A4.1).mono ?_);rintro e w' ⟨rfl,⟨nd,rfl⟩⟩;(try exact dd))|(go_at_call 119;(with_reducible refine(fH.calls k au _ _ aq _ _ ag t114 _ ?aT ?aU ?cR ?cS A6.1).mono ?_);(case aT=>exact cb ((Kd.bz eZ.1 (bl HB.1))));(case aU=>exact iB.1);(case cR=>exact cb ((Kd.bz fu.1 (bl HB.1))));(case cS=>exact jY.1);rintro e w8 ⟨rfl,hb⟩;replace gJ:=af.mk (bb gJ.1 hb);replace HB:=af.mk (aE (bl HB.1) hb);(try clear hb);(try clear cj);(try clear hk);(try clear hi)));try go_wp2_with (first|(go_at_call 84;(with_reducible refine(fq.calls au 1 24 true _ A4.1).mono ?_);rintro e w' ⟨rfl,⟨nd,rfl⟩⟩;(try exact dd))|(go_at_call 119;(with_reducible refine(fH.calls k au _ _ aq _ _ ag t114 _ ?aT ?aU ?cR ?cS A6.1).mono ?_);(case aT=>exact cb ((Kd.bz eZ.1 (bl HB.1))));(case aU=>exact iB.1);(case cR=>exact cb ((Kd.bz fu.1 (bl HB.1))));(case cS=>exact jY.1);rintro e w8 ⟨rfl,hb⟩;replace gJ:=af.mk (bb gJ.1 hb);replace HB:=af.mk (aE (bl HB.1) hb);(try clear hb);(try clear cj);(try clear hk);(try clear hi))))
   go_meet
   case rel=>exact⟨_,(!t114),(by first|rfl|(simp;done)|(simp[*];done)),H',⟨by first|omega|exact Nat.le_refl _⟩,⟨by refine bk ?_;exact gJ.1⟩,⟨bl HB.1⟩⟩
  ·replace c5:=Bool.eq_false_iff.mpr c5;subst c5;rw[if_neg (show¬(false=true) by decide)]at H;have H':=af.mk H;clear H;obtain⟨m8,m9,nc,ni,nj,nr⟩:=bL gJ.1;go_wp2_with (first|(go_at_call 84;(with_reducible refine(fq.calls au 1 24 false _ A4.1).mono ?_);rintro e w' ⟨rfl,⟨nd,rfl⟩⟩;(try exact dd)));repeat (go_quiet (first|(go_at_call 84;(with_reducible refine(fq.calls au 1 24 false _ A4.1).mono ?_);rintro e w' ⟨rfl,⟨nd,rfl⟩⟩;(try exact dd)));try go_wp2_with (first|(go_at_call 84;(with_reducible refine(fq.calls au 1 24 false _ A4.1).mono ?_);rintro e w' ⟨rfl,⟨nd,rfl⟩⟩;(try exact dd))))
   go_meet
   case rel=>exact⟨_,(true),(by first|rfl|(simp;done)|(simp[*];done)),H',⟨by first|omega|exact Nat.le_refl _⟩,⟨by refine bk ?_;exact gJ.1⟩,⟨bl HB.1⟩⟩
 case rest=>
  clear xO;(try clear p2);(try clear c5);(try clear c9);(try clear rY);(try clear rZ);(try clear r6);(try clear m8);(try clear m9);(try clear nc);(try clear r9);(try clear sg);(try clear si);(try clear ni);(try clear nj);(try clear nr);obtain⟨kq,NH,rfl,HA,vI,gJ,HB⟩:=hcut;cases kq with
  |zero=>exact absurd HA.1 (by simp[dQ.j0])
  |succ kj1=>
   have H:=HA.1;clear HA;simp only[dQ.j0]at H;by_cases dz:NH=true
   ·subst dz;rw[if_pos rfl]at H;obtain rfl:=Option.some.inj H;go_wp2;(repeat (go_quiet (fail);try go_wp2));go_ret;exact⟨by first|rfl|(simp[aX,aY]<;>rfl)|(simp[*,aX,aY]<;>rfl),bl HB.1⟩
   ·replace dz:=Bool.eq_false_iff.mpr dz;subst dz;rw[if_neg (show¬(false=true) by decide)]at H;have H':=af.mk H;clear H;go_wp2;(repeat (go_quiet (fail);try go_wp2));go_loopg [3] kj1 (fun kq v3 w'=> ∃(cY:Int),v3= .int .i64 cY∧af (dQ.l0 kq cY au aq ag=some r)∧af (kq≤kj1)∧af (w'.heap[Dc]? =some (.cells #[.int .i64 au,(.slice bB aq.length bC),(.slice bH ag.length br)] 41 (0,0)))∧af (Below w.heap.size w w'));case atStart=>exact⟨(0),(by first|rfl|(simp;done)|(simp[*];done)),H',⟨Nat.le_refl _⟩,⟨by refine bk ?_;exact gJ.1⟩,⟨bl HB.1⟩⟩
    case round=>
     clear H';(try clear c1);(try clear p2);(try clear c5);(try clear c9);(try clear dz);(try clear rY);(try clear rZ);(try clear r6);(try clear m8);(try clear m9);(try clear nc);(try clear r9);(try clear sg);(try clear si);(try clear ni);(try clear nj);(try clear nr);(try clear p2);obtain⟨cY,rfl,HA,iJ,gJ,HB⟩:=hrel;cases gk with
     |zero=>exact absurd HA.1 (by simp[dQ.l0])
     |succ k2=>
      have H:=HA.1;clear HA;simp only[dQ.l0]at H;by_cases dy:cY<(aq.length:Int)
      ·rw[if_pos dy]at H;have mB:decide (cY<(aq.length:Int))=true:=decide_eq_true dy;clear dy;have Ot:=af.mk H;clear H;obtain⟨Gj,Gk,Gl,GD,GF,GG⟩:=bL gJ.1
       go_upto_region 6 with(fail)
       repeat (go_quiet (fail);go_upto_region 6 with(fail))
       go_cut [49] (fun v49 wc=> ∃(kq:Nat) (NP:Bool),v49= .bool NP∧af (dQ.j2 kq cY NP au aq ag=some r)∧af (kq≤k2)∧af (wc.heap[Dc]? =some (.cells #[.int .i64 au,(.slice bB aq.length bC),(.slice bH ag.length br)] 41 (0,0)))∧af (Below w.heap.size w wc))
       case first=>
        have H:=Ot.1;clear Ot;by_cases lM:0≤cY
        ·rw[if_pos lM]at H;have CX:decide (0≤cY)=true:=decide_eq_true lM;clear lM;(first|rw[CX]|(simp only[cI,cP];rw[CX])|skip);replace H:=Option.bind_eq_some_iff.mp H;obtain⟨t116,Wb,H⟩:=H;(try dsimp only at H);have uE:=af.mk Wb;clear Wb;by_cases iD:t116=true
         ·subst iD;rw[if_pos rfl]at H;by_cases jD:cY>0
          ·rw[if_pos jD]at H;have Fm:decide (0<cY)=true:=decide_eq_true jD;clear jD;obtain⟨qP,Hf⟩: ∃j_:Int,(wrap64 (cY-1))=j_:=⟨_,rfl⟩;(replace H:(if 0≤(qP)then(if(qP)<(aq.length:Int)then(dQ.j2 k2 cY (decide ((rd aq cY)≤(rd aq (qP)))) au aq ag)else(none))else(none))=some r:=by first|(rw[Hf]at H;exact H)|(simp only[Hf]at H⊢;exact H));(try rw[Hf]at uE);have aAj:(IntKind.i64.wrap (cY-1))=qP:=(cI _).trans Hf;by_cases nR:0≤(qP)
           ·rw[if_pos nR]at H;have Qi:decide (0≤(qP))=true:=decide_eq_true nR;clear nR;by_cases fh:(qP)<(aq.length:Int)
            ·rw[if_pos fh]at H;have yd:decide ((qP)<(aq.length:Int))=true:=decide_eq_true fh;clear fh;have H':=af.mk H;clear H;obtain⟨aaP,aaQ,aaR,abv,abw,abx⟩:=bL gJ.1;have qi:0≤(cY:Int):=of_decide_eq_true ay;have qj:cY<(aq.length:Int):=of_decide_eq_true ay;obtain⟨KL,FH,qf⟩:=Kd.kZ eZ.1 cY qi qj;cases FH;replace qf:=(HB.1.cell (World.block_lt_of_cell? w _ qf)).trans qf;replace qi:=eq_true qi;replace qj:=eq_true qj;have Jy:0≤(cY:Int):=of_decide_eq_true ay;have JB:cY<(aq.length:Int):=of_decide_eq_true ay;obtain⟨aiF,aj9,Ih⟩:=Kd.kZ eZ.1 cY Jy JB;obtain rfl:KL=aiF:=(by injection aj9);replace Ih:=(HB.1.cell (World.block_lt_of_cell? w _ Ih)).trans Ih;replace Jy:=eq_true Jy;replace JB:=eq_true JB;have Jz:0≤((qP):Int):=of_decide_eq_true ay;have JC:(qP)<(aq.length:Int):=of_decide_eq_true ay;obtain⟨aiG,aka,Ii⟩:=Kd.kZ eZ.1 (qP) Jz JC;obtain rfl:KL=aiG:=(by injection aka);replace Ii:=(HB.1.cell (World.block_lt_of_cell? w _ Ii)).trans Ii;replace Jz:=eq_true Jz;replace JC:=eq_true JC;go_wp2_with (first|(go_at_call 84;(with_reducible refine(fq.calls (rd aq cY) 1 (wrap64 (au-1)) true _ uE.1).mono ?_);rintro e w' ⟨rfl,⟨nd,rfl⟩⟩;(try exact dd)));repeat (go_quiet (first|(go_at_call 84;(with_reducible refine(fq.calls (rd aq cY) 1 (wrap64 (au-1)) true _ uE.1).mono ?_);rintro e w' ⟨rfl,⟨nd,rfl⟩⟩;(try exact dd)));try go_wp2_with (first|(go_at_call 84;(with_reducible refine(fq.calls (rd aq cY) 1 (wrap64 (au-1)) true _ uE.1).mono ?_);rintro e w' ⟨rfl,⟨nd,rfl⟩⟩;(try exact dd))))
             go_meet
             case rel=>exact⟨_,(decide ((rd aq cY)≤(rd aq (qP)))),(by first|rfl|(simp;done)|(simp only[←Hf]<;>(first|rfl|simp))|(simp[*];done)),H',⟨by have:=vI.1;have:=iJ.1;first|omega|exact Nat.le_refl _⟩,⟨by refine bk ?_;exact gJ.1⟩,⟨bl HB.1⟩⟩
            ·rw[if_neg fh]at H;exact absurd H (by simp)
           ·rw[if_neg nR]at H;exact absurd H (by simp)
          ·rw[if_neg jD]at H;have Fm:decide (0<cY)=false:=decide_eq_false jD;clear jD;have H':=af.mk H;clear H;obtain⟨Gq,Gr,Gs,GK,GL,GM⟩:=bL gJ.1;have qi:0≤(cY:Int):=of_decide_eq_true ay;have qj:cY<(aq.length:Int):=of_decide_eq_true ay;obtain⟨KL,FH,qf⟩:=Kd.kZ eZ.1 cY qi qj;cases FH;replace qf:=(HB.1.cell (World.block_lt_of_cell? w _ qf)).trans qf;replace qi:=eq_true qi;replace qj:=eq_true qj;go_wp2_with (first|(go_at_call 84;(with_reducible refine(fq.calls (rd aq cY) 1 (wrap64 (au-1)) true _ uE.1).mono ?_);rintro e w' ⟨rfl,⟨nd,rfl⟩⟩;(try exact dd)));repeat (go_quiet (first|(go_at_call 84;(with_reducible refine(fq.calls (rd aq cY) 1 (wrap64 (au-1)) true _ uE.1).mono ?_);rintro e w' ⟨rfl,⟨nd,rfl⟩⟩;(try exact dd)));try go_wp2_with (first|(go_at_call 84;(with_reducible refine(fq.calls (rd aq cY) 1 (wrap64 (au-1)) true _ uE.1).mono ?_);rintro e w' ⟨rfl,⟨nd,rfl⟩⟩;(try exact dd))))
           go_meet
           case rel=>exact⟨_,(false),(by first|rfl|(simp;done)|(simp[*];done)),H',⟨by have:=vI.1;have:=iJ.1;first|omega|exact Nat.le_refl _⟩,⟨by refine bk ?_;exact gJ.1⟩,⟨bl HB.1⟩⟩
         ·replace iD:=Bool.eq_false_iff.mpr iD;subst iD;rw[if_neg (show¬(false=true) by decide)]at H;have H':=af.mk H;clear H;obtain⟨LK,LL,LM,LZ,L3,L4⟩:=bL gJ.1;have qi:0≤(cY:Int):=of_decide_eq_true ay;have qj:cY<(aq.length:Int):=of_decide_eq_true ay;obtain⟨KL,FH,qf⟩:=Kd.kZ eZ.1 cY qi qj;cases FH;replace qf:=(HB.1.cell (World.block_lt_of_cell? w _ qf)).trans qf;replace qi:=eq_true qi;replace qj:=eq_true qj;go_wp2_with (first|(go_at_call 84;(with_reducible refine(fq.calls (rd aq cY) 1 (wrap64 (au-1)) false _ uE.1).mono ?_);rintro e w' ⟨rfl,⟨nd,rfl⟩⟩;(try exact dd)));repeat (go_quiet (first|(go_at_call 84;(with_reducible refine(fq.calls (rd aq cY) 1 (wrap64 (au-1)) false _ uE.1).mono ?_);rintro e w' ⟨rfl,⟨nd,rfl⟩⟩;(try exact dd)));try go_wp2_with (first|(go_at_call 84;(with_reducible refine(fq.calls (rd aq cY) 1 (wrap64 (au-1)) false _ uE.1).mono ?_);rintro e w' ⟨rfl,⟨nd,rfl⟩⟩;(try exact dd))))
          go_meet
          case rel=>exact⟨_,(true),(by first|rfl|(simp;done)|(simp[*];done)),H',⟨by have:=vI.1;have:=iJ.1;first|omega|exact Nat.le_refl _⟩,⟨by refine bk ?_;exact gJ.1⟩,⟨bl HB.1⟩⟩
        ·rw[if_neg lM]at H;exact absurd H (by simp)
       case rest=>
        clear Ot;(try clear c1);(try clear p1);(try clear q1);(try clear hx1);(try clear c2);(try clear p2);(try clear c5);(try clear p6);(try clear c9);(try clear dz);(try clear dy);(try clear mB);(try clear p11);(try clear q11);(try clear apO);(try clear lM);(try clear CX);(try clear iD);(try clear jD);(try clear Fm);(try clear nR);(try clear Qi);(try clear fh);(try clear yd);(try clear Gj);(try clear Gk);(try clear Gl);(try clear aaP);(try clear aaQ);(try clear aaR);(try clear Gq);(try clear Gr);(try clear Gs);(try clear LK);(try clear LL);(try clear LM);(try clear rY);(try clear rZ);(try clear r6);(try clear m8);(try clear m9);(try clear nc);(try clear GD);(try clear GF);(try clear GG);(try clear abv);(try clear abw);(try clear abx);(try clear GK);(try clear GL);(try clear GM);(try clear LZ);(try clear L3);(try clear L4);(try clear r9);(try clear sg);(try clear si);(try clear ni);(try clear nj);(try clear nr);(try clear qf);(try clear Ih);(try clear Ii);(try clear qi);(try clear Jy);(try clear Jz);(try clear p2);(try clear qj);(try clear JB);(try clear JC);obtain⟨kq,NP,rfl,HA,CB,gJ,HB⟩:=hcut;cases kq with
        |zero=>exact absurd HA.1 (by simp[dQ.j2])
        |succ adD=>
         have H:=HA.1;clear HA;simp only[dQ.j2]at H;by_cases mZ:NP=true
         ·subst mZ;rw[if_pos rfl]at H;obtain rfl:=Option.some.inj H;go_wp2;(repeat (go_quiet (fail);try go_wp2));go_ret;exact⟨by first|rfl|(simp[aX,aY]<;>rfl)|(simp[*,aX,aY]<;>rfl),bl HB.1⟩
         ·replace mZ:=Bool.eq_false_iff.mpr mZ;subst mZ;rw[if_neg (show¬(false=true) by decide)]at H;have H':=af.mk H;clear H;go_wp2;(repeat (go_quiet (fail);try go_wp2));go_loopg [4,5] adD (fun kq v4 v5 w'=> ∃(JY:Bool) (pL:Int),v4= .bool JY∧v5= .int .i64 pL∧af (dQ.l1 kq cY JY pL au aq ag=some r)∧af (kq≤adD)∧af (w'.heap[Dc]? =some (.cells #[.int .i64 au,(.slice bB aq.length bC),(.slice bH ag.length br)] 41 (0,0)))∧af (Below w.heap.size w w'));case atStart=>exact⟨(false),(0),(by first|rfl|(simp;done)|(simp[*];done)),(by first|rfl|(simp;done)|(simp[*];done)),H',⟨Nat.le_refl _⟩,⟨by refine bk ?_;exact gJ.1⟩,⟨bl HB.1⟩⟩
          case round=>
           clear H';(try clear c1);(try clear p1);(try clear q1);(try clear hx1);(try clear c2);(try clear p2);(try clear c5);(try clear p6);(try clear c9);(try clear dz);(try clear dy);(try clear mB);(try clear p11);(try clear q11);(try clear apO);(try clear lM);(try clear CX);(try clear iD);(try clear jD);(try clear Fm);(try clear nR);(try clear Qi);(try clear fh);(try clear yd);(try clear mZ);(try clear Gj);(try clear Gk);(try clear Gl);(try clear aaP);(try clear aaQ);(try clear aaR);(try clear Gq);(try clear Gr);(try clear Gs);(try clear LK);(try clear LL);(try clear LM);(try clear rY);(try clear rZ);(try clear r6);(try clear m8);(try clear m9);(try clear nc);(try clear GD);(try clear GF);(try clear GG);(try clear abv);(try clear abw);(try clear abx);(try clear GK);(try clear GL);(try clear GM);(try clear LZ);(try clear L3);(try clear L4);(try clear r9);(try clear sg);(try clear si);(try clear ni);(try clear nj);(try clear nr);(try clear qf);(try clear Ih);(try clear Ii);(try clear p1);(try clear p11);(try clear qi);(try clear Jy);(try clear Jz);(try clear p2);(try clear p6);(try clear q1);(try clear q11);(try clear qj);(try clear JB);(try clear JC);obtain⟨JY,pL,rfl,rfl,HA,CF,gJ,HB⟩:=hrel;cases gk with
           |zero=>exact absurd HA.1 (by simp[dQ.l1])
           |succ k4=>
            have H:=HA.1;clear HA;simp only[dQ.l1]at H;by_cases kG:pL<(ag.length:Int)
            ·rw[if_pos kG]at H;have KZ:decide (pL<(ag.length:Int))=true:=decide_eq_true kG;clear kG;by_cases om:JY=true
             ·subst om;rw[if_pos rfl]at H;have H':=af.mk H;clear H;obtain⟨aaS,aaT,aaU,aby,abz,abA⟩:=bL gJ.1;go_wp2;(repeat (go_quiet (fail);try go_wp2));go_roundg k4;case measure=>have:=vI.1;have:=iJ.1;have:=CB.1;have:=CF.1;omega
              case rel=>exact⟨(true),(wrap64 (pL+1)),(by first|rfl|(simp;done)|(simp[*];done)),(by first|rfl|(simp;done)|(simp[*];done)),H',⟨by have:=vI.1;have:=iJ.1;have:=CB.1;have:=CF.1;omega⟩,⟨by refine bk ?_;exact gJ.1⟩,⟨bl HB.1⟩⟩
             ·replace om:=Bool.eq_false_iff.mpr om;subst om;rw[if_neg (show¬(false=true) by decide)]at H;by_cases Fv:0≤pL
              ·rw[if_pos Fv]at H;have auG:decide (0≤pL)=true:=decide_eq_true Fv;clear Fv;by_cases Fw:0≤cY
               ·rw[if_pos Fw]at H;have auH:decide (0≤cY)=true:=decide_eq_true Fw;clear Fw;by_cases Fx:cY<(aq.length:Int)
                ·rw[if_pos Fx]at H;have auI:decide (cY<(aq.length:Int))=true:=decide_eq_true Fx;clear Fx;have H':=af.mk H;clear H;obtain⟨aaY,aaZ,aa0,abE,abF,abG⟩:=bL gJ.1;have UC:0≤(pL:Int):=of_decide_eq_true ay;have U3:pL<(ag.length:Int):=of_decide_eq_true ay;obtain⟨aum,akb,Ts,Tt,Tv,Tw⟩:=eW fu.1 pL UC U3;cases akb;replace Ts:=(HB.1.cell (World.block_lt_of_cell? w _ Ts)).trans Ts;replace Tt:=(HB.1.cell (World.block_lt_of_cell? w _ Tt)).trans Tt;replace Tv:=(HB.1.cell (World.block_lt_of_cell? w _ Tv)).trans Tv;replace Tw:=(HB.1.cell (World.block_lt_of_cell? w _ Tw)).trans Tw;replace UC:=eq_true UC;replace U3:=eq_true U3;have UD:0≤(cY:Int):=of_decide_eq_true ay;have U4:cY<(aq.length:Int):=of_decide_eq_true ay;obtain⟨aun,akc,Tx⟩:=Kd.kZ eZ.1 cY UD U4;cases akc;replace Tx:=(HB.1.cell (World.block_lt_of_cell? w _ Tx)).trans Tx;replace UD:=eq_true UD;replace U4:=eq_true U4;go_wp2;(repeat (go_quiet (fail);try go_wp2));go_roundg k4;case measure=>have:=vI.1;have:=iJ.1;have:=CB.1;have:=CF.1;omega
                 case rel=>exact⟨((((ah ag pL).f0)==(rd aq cY))),(wrap64 (pL+1)),(by first|rfl|(simp;done)|(simp[*];done)),(by first|rfl|(simp;done)|(simp[*];done)),H',⟨by have:=vI.1;have:=iJ.1;have:=CB.1;have:=CF.1;omega⟩,⟨by refine bk ?_;exact gJ.1⟩,⟨bl HB.1⟩⟩
                ·rw[if_neg Fx]at H;exact absurd H (by simp)
               ·rw[if_neg Fw]at H;exact absurd H (by simp)
              ·rw[if_neg Fv]at H;exact absurd H (by simp)
            ·rw[if_neg kG]at H;have KZ:decide (pL<(ag.length:Int))=false:=decide_eq_false kG;clear kG;by_cases K0:JY=true
             ·subst K0;rw[if_pos rfl]at H;have H':=af.mk H;clear H;obtain⟨RQ,RR,RS,SG,SH,SI⟩:=bL gJ.1;go_wp2;(repeat (go_quiet (fail);try go_wp2));go_roundg k4;case measure=>have:=vI.1;have:=iJ.1;have:=CB.1;have:=CF.1;omega
              case rel=>exact⟨(wrap64 (cY+1)),(by first|rfl|(simp;done)|(simp[*];done)),H',⟨by have:=vI.1;have:=iJ.1;have:=CB.1;have:=CF.1;omega⟩,⟨by refine bk ?_;exact gJ.1⟩,⟨bl HB.1⟩⟩
             ·replace K0:=Bool.eq_false_iff.mpr K0;subst K0;rw[if_neg (show¬(false=true) by decide)]at H;obtain rfl:=Option.some.inj H;obtain⟨amj,amk,aml,an2,an3,an4⟩:=bL gJ.1;go_wp2;(repeat (go_quiet (fail);try go_wp2));go_ret;exact⟨by first|rfl|(simp[aX,aY]<;>rfl)|(simp[*,aX,aY]<;>rfl),bl HB.1⟩
      ·rw[if_neg dy]at H;have mB:decide (cY<(aq.length:Int))=false:=decide_eq_false dy;clear dy;obtain rfl:=Option.some.inj H;obtain⟨RT,RU,RV,SJ,SK,SL⟩:=bL gJ.1;go_wp2;(repeat (go_quiet (fail);try go_wp2));go_ret;exact⟨by first|rfl|(simp[aX,aY]<;>rfl)|(simp[*,aX,aY]<;>rfl),bl HB.1⟩
def oJ.f(au:Int)(fT:Int)(eO:Int)(iN:Bool):Option (Bool):=if eO=0 then(some (!iN))else(some false)
theorem oJ.calls(au:Int)(fT:Int)(eO:Int)(iN:Bool)(r:Bool)(w:World)(h:oJ.f au fT eO iN=some r):
  Calls Try.prog 92 #[.agg #[.int .i64 au,.int .i64 fT,.int .i64 eO,.bool iN]] w fun e w'=>e= .returned (.bool r)∧Below w.heap.size w w':=by
 have wE:=Try.underlying98;have HB:=af.mk (Below.refl w.heap.size w);have H:(if eO=0 then(some (!iN))else(some false))=some r:=h;clear h;by_cases c2:eO=0;focus
  rw[if_pos c2]at H;have oo:(eO==0)=true:=beq_iff_eq.mpr c2;have zU:(eO !=0)=false:=bne_eq_false_iff_eq.mpr c2;clear c2;obtain rfl:=Option.some.inj H
 rotate_left;focus
  rw[if_neg c2]at H;have oo:(eO==0)=false:=beq_eq_false_iff_ne.mpr c2;have zU:(eO !=0)=true:=bne_iff_ne.mpr c2;obtain rfl:=Option.some.inj H
 rotate_left;(all_goals go_enter Try.func92,Try.ntmps92);all_goals go_wp2_with (first|((with_reducible refine bP (N:=1) rfl ?_);refine bx (cs:= #[.int .i64 au,.int .i64 fT,.int .i64 eO,.bool iN]) (t:=98) fun avz hg w3 az hb=>?_;have afE:=af.mk (az);have atE:=af.mk (gs HB.1 hg);have as2:=af.mk (gs HB.1 hg);replace HB:=af.mk (aE (bl HB.1) hb);clear hb az hg;obtain⟨aw0,aw1,aw2,aw3,azq,azr,azs,azt⟩:=gi afE.1))
 ·go_ret;exact⟨by first|rfl|(simp[aX,aY]<;>rfl)|(simp[*,aX,aY]<;>rfl),bl HB.1⟩
 ·go_ret;exact⟨by first|rfl|(simp[aX,aY]<;>rfl)|(simp[*,aX,aY]<;>rfl),bl HB.1⟩
def mN.l0:Nat→List Int→Int→Int→Option (Bool)
 |0,_,_,_=>none
 |k+1,x0,x1,x5=>if x5<(x0.length:Int)then(if 0≤x5 then(if(rd x0 x5)=x1 then(some true)else(mN.l0 k x0 x1 (wrap64 (x5+1))))else(none))else(some false)
def mN.f(k:Nat)(l0:List Int)(a1:Int):Option (Bool):=mN.l0 k l0 a1 0
theorem mN.calls(k:Nat)(A0:Option Addr)(c0:Nat)(l0:List Int)(a1:Int)(r:Bool)(w:World)(bK:Kd.C (Kd.int .i64) w A0 l0.length l0)(hc0:l0.length≤c0)(h:mN.f k l0 a1=some r):
  Calls Try.prog 93 #[.slice A0 l0.length c0,.int .i64 a1] w fun e w'=>e= .returned (.bool r)∧bM w w':=by
 have bt:=af.mk bK;have cF:=af.mk hc0;clear bK hc0;have H:(mN.l0 k l0 a1 0)=some r:=h;clear h;have H':=af.mk H;clear H;go_enter Try.func93,Try.ntmps93;go_wp2;go_loopg [5] k (fun kq v5 w'=> ∃(ai:Int),v5= .int .i64 ai∧af (mN.l0 kq l0 a1 ai=some r)∧af (kq≤k)∧bM w w');case atStart=>exact⟨(0),(by first|rfl|(simp;done)|(simp[*];done)),H',⟨Nat.le_refl _⟩,by repeat (first|exact bM.refl _|apply bM.step)⟩
 case round=>
  clear H';(try clear p2);obtain⟨ai,rfl,HA,bp,⟨m1,rfl⟩⟩:=hrel;cases gk with
  |zero=>exact absurd HA.1 (by simp[mN.l0])
  |succ k1=>
   have H:=HA.1;clear HA;simp only[mN.l0]at H;by_cases c3:ai<(l0.length:Int)
   ·rw[if_pos c3]at H;have cZ:decide (ai<(l0.length:Int))=true:=decide_eq_true c3;clear c3;by_cases c4:0≤ai
    ·rw[if_pos c4]at H;have dD:decide (0≤ai)=true:=decide_eq_true c4;clear c4;by_cases c5:(rd l0 ai)=a1
     ·rw[if_pos c5]at H;have ic:((rd l0 ai)==a1)=true:=beq_iff_eq.mpr c5;have rI:((rd l0 ai) !=a1)=false:=bne_eq_false_iff_eq.mpr c5;clear c5;obtain rfl:=Option.some.inj H;have Ba:0≤(ai:Int):=of_decide_eq_true ay;have Bu:ai<(l0.length:Int):=of_decide_eq_true ay;obtain⟨aiH,QD,apP⟩:=Kd.kZ bt.1 ai Ba Bu;cases QD;replace Ba:=eq_true Ba;replace Bu:=eq_true Bu;go_wp2;go_ret;exact⟨by first|rfl|(simp;done)|(simp[*];done),by repeat (first|exact bM.refl _|apply bM.step)⟩
     ·rw[if_neg c5]at H;have ic:((rd l0 ai)==a1)=false:=beq_eq_false_iff_ne.mpr c5;have rI:((rd l0 ai) !=a1)=true:=bne_iff_ne.mpr c5;have H':=af.mk H;clear H;have Ba:0≤(ai:Int):=of_decide_eq_true ay;have Bu:ai<(l0.length:Int):=of_decide_eq_true ay;obtain⟨aiH,QD,apP⟩:=Kd.kZ bt.1 ai Ba Bu;cases QD;replace Ba:=eq_true Ba;replace Bu:=eq_true Bu;go_wp2;go_roundg k1;case measure=>have:=bp.1;omega
      case rel=>exact⟨(wrap64 (ai+1)),(by first|rfl|(simp;done)|(simp[*];done)),H',⟨by have:=bp.1;omega⟩,by repeat (first|exact bM.refl _|apply bM.step)⟩
    ·rw[if_neg c4]at H;exact absurd H (by simp)
   ·rw[if_neg c3]at H;have cZ:decide (ai<(l0.length:Int))=false:=decide_eq_false c3;clear c3;obtain rfl:=Option.some.inj H;go_wp2;go_ret;exact⟨by first|rfl|(simp;done)|(simp[*];done),by repeat (first|exact bM.refl _|apply bM.step)⟩
end Go.Proofs.Ytbpjidekjogfeaa.A
