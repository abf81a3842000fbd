/- Used by the law FnBanks. -/
import Derived.Test.YtbpjidekjogfeaaZFnBanksx8
namespace Go.Proofs.YtbpjidekjogfeaaW.cN
open Go.RowKit
def lU(P:World→Prop)(W:World)(ok:Nat→Prop):Prop:= ∀W':World,(∀k,ok k→k<W.heap.size→W'.heap[k]? =W.heap[k]?)→P W'
theorem aBb{W W1:World}{k:Nat}(h:W1.heap[k]? =W.heap[k]?)(hlt:k<W.heap.size):k<W1.heap.size:=by
 rw[Array.getElem?_eq_getElem hlt]at h;exact(Array.getElem?_eq_some_iff.1 h).1
namespace lU
variable {P Q:World→Prop} {W W1:World} {ok ok':Nat→Prop}
theorem now(h:lU P W ok):P W:=h W (fun _ _ _=>rfl)
theorem mono(h:lU P W ok)(hok: ∀k,ok k→ok' k):lU P W ok':=fun W' hW=>h W' (fun k hk hlt=>hW k (hok k hk) hlt)
theorem bound(h:lU P W ok):lU P W (fun k=>ok k∧k<W.heap.size):=fun W' hW=>h W' (fun k hk hlt=>hW k ⟨hk,hlt⟩ hlt)
theorem step(h:lU P W ok)(hm: ∀k,ok k→k<W.heap.size→W1.heap[k]? =W.heap[k]?):lU P W1 ok:=fun W' hW=>h W' (fun k hk hlt=>(hW k hk (aBb (hm k hk hlt) hlt)).trans (hm k hk hlt))
theorem imp(h:lU P W ok)(hi: ∀W',P W'→Q W'):lU Q W ok:=fun W' hW=>hi W' (h W' hW)
theorem old(h:lU P W ok)(hb:Below W.heap.size W W1):lU P W1 (fun k=>ok k∧k<W.heap.size):=(h.bound).step (fun k _ hlt=>hb.block k hlt)
end lU
namespace Kd
def F{α:Type}(d:Kd α)(W:World)(ok:Nat→Prop)(A:Option Addr)(n:Nat)(xs:List α):Prop:=lU (fun W=>d.C W A n xs) W ok
def FK{α:Type}(d:Kd α)(W:World)(ok:Nat→Prop)(x:α)(c:List Value):Prop:=lU (fun W=>d.K W x c) W ok
section
variable {α β:Type} {d:Kd α} {e base n n' cc g N:Nat} {ok ok' dz S:Nat→Prop} {w w0 w1 W W1:World} {A A':Option Addr} {u v v1:Value} {xs:List α} {xs':List β} {d':Kd β} {x:α} {c:List Value}
theorem ati(h:F d W ok A n xs):d.C W A n xs:=lU.now h
theorem MN(h:F d W ok A n xs)(hok: ∀k,ok k→ok' k):F d W ok' A n xs:=lU.mono h hok
theorem ahc(h:F d W ok A n xs):F d W (fun k=>ok k∧k<W.heap.size) A n xs:=lU.bound h
theorem ahe(h:F d W ok A n xs)(hm: ∀k,ok k→k<W.heap.size→W1.heap[k]? =W.heap[k]?):F d W1 ok A n xs:=lU.step h hm
theorem ahd(h:F d W ok A n xs)(hi: ∀W',d.C W' A n xs→d'.C W' A' n' xs'):F d' W ok A' n' xs':=lU.imp h hi
theorem J3(h:F d W ok A n xs)(hb:Below W.heap.size W W1):F d W1 ok A n xs:=ahe h (fun k _ hlt=>hb.block k hlt)
theorem ata(h:F d W ok A n xs)(o:Obj):F d (W.alloc o) ok A n xs:=J3 h (kN (Below.refl _ _) o)
theorem atc(h:F d W ok A n xs):F d W.drew ok A n xs:=J3 h (Np (Below.refl _ _))
theorem atd(h:F d W ok A n xs)(m:Nat):F d (W.drewN m) ok A n xs:=J3 h (jB (Below.refl _ _) m)
theorem atg(h:F d W ok A n xs){p:Addr}(hok: ∀k,ok k→k≠p.block)(u:Value):F d (W.setCell p u) ok A n xs:=ahe h (fun k hk _=>Below.heap_setCell W p u k (hok k hk))
theorem ath(d:Kd α)(W:World)(ok:Nat→Prop):F d W ok none ([]:List α).length []:=fun W' _=>ahb d W'
theorem ate(h:F d W ok A n xs)(hbase: ∀k,v.ownBlock=some k→W.heap.size≤k)(hb:Below W.heap.size W W1):F d W1 (fun k=>ok k∧some k≠v.ownBlock) A n xs:=
 MN (lU.old h hb) (fun k hk=>⟨hk.1,fun he=>by have:=hbase k he.symm;have:=hk.2;omega⟩)
theorem atf(h:F d W ok A n xs)(a:Nat)(ha:W.heap.size≤a):F d W (fun k=>ok k∧k≠a) A n xs:=MN (ahc h) (fun k hk=>⟨hk.1,by have:=hk.2;omega⟩)
theorem as9(h:F d W (fun k=>ok k∧some k≠v.ownBlock) A n xs)(hg:W.grownBy W1 v.ownBlock)(hat:v1.ownBlock=v.ownBlock∨ ∃b,v1.ownBlock=some b∧W.heap.size≤b):F d W1 (fun k=>ok k∧some k≠v1.ownBlock) A n xs:=by
 refine MN (lU.step (ahc h) (fun k hk hlt=>hg.block k hlt hk.1.2)) (fun k hk=>⟨hk.1.1,?_⟩);rcases hat with hat|⟨b,hb,hle⟩
 ·rw[hat];exact hk.1.2
 ·rw[hb];intro he;(injection he with he);have:=hk.2;omega
theorem atj(h:F d W ok A n xs)(hb:Below W.heap.size W W1):F d W1 (fun k=>ok k∧k<W.heap.size) A n xs:=lU.old h hb
theorem atl(h:F d W1 (fun k=>ok k∧k<N) A n xs)(hbase: ∀k,v.ownBlock=some k→N≤k):F d W1 (fun k=>(ok k∧some k≠v.ownBlock)∧k<N) A n xs:=
 MN h (fun k hk=>⟨⟨hk.1,fun he=>Nat.lt_irrefl _ (Nat.lt_of_lt_of_le hk.2 (hbase k he.symm))⟩,hk.2⟩)
theorem C_F(hd:Heap d)(h:d.C w A n xs):F d w (fun k=>k<w.heap.size) A n xs:=fun _ hW=>hd.C (fun k hlt=>hW k hlt hlt) h
theorem Gv(h:d.R e W base ok (.slice A n cc) xs):F d W ok A n xs:=fun W' hW=>by
 have h2:=cM (Nc h hW);rw[h2.1];exact h2.2.2
theorem Eh(h:FK d W ok x c):d.K W x c:=lU.now h
theorem F3(h:FK d W ok x c)(hok: ∀k,ok k→ok' k):FK d W ok' x c:=lU.mono h hok
theorem YR(h:FK d W ok x c):FK d W (fun k=>ok k∧k<W.heap.size) x c:=lU.bound h
theorem MM(h:FK d W ok x c)(hm: ∀k,ok k→k<W.heap.size→W1.heap[k]? =W.heap[k]?):FK d W1 ok x c:=lU.step h hm
theorem as7(h:d.M W base ok x c):FK d W ok x c:=fun _ hW=>d.jZ (ZE h hW)
end
end Kd
end Go.Proofs.YtbpjidekjogfeaaW.cN
