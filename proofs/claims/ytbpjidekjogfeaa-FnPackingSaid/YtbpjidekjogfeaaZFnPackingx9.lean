/- Used by the law FnPacking. -/
import Derived.Test.YtbpjidekjogfeaaZFnPackingx8
namespace Go.Proofs.YtbpjidekjogfeaaW.cK
open Go.RowKit
def lq(P:World→Prop)(W:World)(ok:Nat→Prop):Prop:= ∀W':World,(∀k,ok k→k<W.heap.size→W'.heap[k]? =W.heap[k]?)→P W'
theorem aBe{W W1:World}{k:Nat}(h:W1.heap[k]? =W.heap[k]?)(hlt:k<W.heap.size):k<W1.heap.size:=by
 rw[Array.getElem?_eq_getElem hlt]at h;exact(Array.getElem?_eq_some_iff.1 h).1
namespace lq
variable {P Q:World→Prop} {W W1:World} {ok ok':Nat→Prop}
theorem now(h:lq P W ok):P W:=h W (fun _ _ _=>rfl)
theorem mono(h:lq P W ok)(hok: ∀k,ok k→ok' k):lq P W ok':=fun W' hW=>h W' (fun k hk hlt=>hW k (hok k hk) hlt)
theorem bound(h:lq P W ok):lq P W (fun k=>ok k∧k<W.heap.size):=fun W' hW=>h W' (fun k hk hlt=>hW k ⟨hk,hlt⟩ hlt)
theorem step(h:lq P W ok)(hm: ∀k,ok k→k<W.heap.size→W1.heap[k]? =W.heap[k]?):lq P W1 ok:=fun W' hW=>h W' (fun k hk hlt=>(hW k hk (aBe (hm k hk hlt) hlt)).trans (hm k hk hlt))
theorem imp(h:lq P W ok)(hi: ∀W',P W'→Q W'):lq Q W ok:=fun W' hW=>hi W' (h W' hW)
theorem old(h:lq P W ok)(hb:Below W.heap.size W W1):lq P W1 (fun k=>ok k∧k<W.heap.size):=(h.bound).step (fun k _ hlt=>hb.block k hlt)
end lq
namespace Kd
def F{α:Type}(d:Kd α)(W:World)(ok:Nat→Prop)(A:Option Addr)(n:Nat)(xs:List α):Prop:=lq (fun W=>d.C W A n xs) W ok
def FK{α:Type}(d:Kd α)(W:World)(ok:Nat→Prop)(x:α)(c:List Value):Prop:=lq (fun W=>d.K W x c) W ok
section
variable {α β:Type} {d:Kd α} {e base n n' cc g N:Nat} {ok ok' cV S:Nat→Prop} {w w0 w1 W W1:World} {A A':Option Addr} {u v v1:Value} {xs:List α} {xs':List β} {d':Kd β} {x:α} {c:List Value}
theorem atq(h:F d W ok A n xs):d.C W A n xs:=lq.now h
theorem M3(h:F d W ok A n xs)(hok: ∀k,ok k→ok' k):F d W ok' A n xs:=lq.mono h hok
theorem ahh(h:F d W ok A n xs):F d W (fun k=>ok k∧k<W.heap.size) A n xs:=lq.bound h
theorem ahk(h:F d W ok A n xs)(hm: ∀k,ok k→k<W.heap.size→W1.heap[k]? =W.heap[k]?):F d W1 ok A n xs:=lq.step h hm
theorem ahj(h:F d W ok A n xs)(hi: ∀W',d.C W' A n xs→d'.C W' A' n' xs'):F d' W ok A' n' xs':=lq.imp h hi
theorem JD(h:F d W ok A n xs)(hb:Below W.heap.size W W1):F d W1 ok A n xs:=ahk h (fun k _ hlt=>hb.block k hlt)
theorem atj(h:F d W ok A n xs)(o:Obj):F d (W.alloc o) ok A n xs:=JD h (jr (Below.refl _ _) o)
theorem atk(h:F d W ok A n xs):F d W.drew ok A n xs:=JD h (NK (Below.refl _ _))
theorem atl(h:F d W ok A n xs)(m:Nat):F d (W.drewN m) ok A n xs:=JD h (gG (Below.refl _ _) m)
theorem ato(h:F d W ok A n xs){p:Addr}(hok: ∀k,ok k→k≠p.block)(u:Value):F d (W.setCell p u) ok A n xs:=ahk h (fun k hk _=>Below.heap_setCell W p u k (hok k hk))
theorem atp(d:Kd α)(W:World)(ok:Nat→Prop):F d W ok none ([]:List α).length []:=fun W' _=>ahg d W'
theorem atm(h:F d W ok A n xs)(hbase: ∀k,v.ownBlock=some k→W.heap.size≤k)(hb:Below W.heap.size W W1):F d W1 (fun k=>ok k∧some k≠v.ownBlock) A n xs:=
 M3 (lq.old h hb) (fun k hk=>⟨hk.1,fun he=>by have:=hbase k he.symm;have:=hk.2;omega⟩)
theorem atn(h:F d W ok A n xs)(a:Nat)(ha:W.heap.size≤a):F d W (fun k=>ok k∧k≠a) A n xs:=M3 (ahh h) (fun k hk=>⟨hk.1,by have:=hk.2;omega⟩)
theorem ati(h:F d W (fun k=>ok k∧some k≠v.ownBlock) A n xs)(hg:W.grownBy W1 v.ownBlock)(hat:v1.ownBlock=v.ownBlock∨ ∃b,v1.ownBlock=some b∧W.heap.size≤b):F d W1 (fun k=>ok k∧some k≠v1.ownBlock) A n xs:=by
 refine M3 (lq.step (ahh h) (fun k hk hlt=>hg.block k hlt hk.1.2)) (fun k hk=>⟨hk.1.1,?_⟩);rcases hat with hat|⟨b,hb,hle⟩
 ·rw[hat];exact hk.1.2
 ·rw[hb];intro he;(injection he with he);have:=hk.2;omega
theorem atr(h:F d W ok A n xs)(hb:Below W.heap.size W W1):F d W1 (fun k=>ok k∧k<W.heap.size) A n xs:=lq.old h hb
theorem att(h:F d W1 (fun k=>ok k∧k<N) A n xs)(hbase: ∀k,v.ownBlock=some k→N≤k):F d W1 (fun k=>(ok k∧some k≠v.ownBlock)∧k<N) A n xs:=
 M3 h (fun k hk=>⟨⟨hk.1,fun he=>Nat.lt_irrefl _ (Nat.lt_of_lt_of_le hk.2 (hbase k he.symm))⟩,hk.2⟩)
theorem C_F(hd:Heap d)(h:d.C w A n xs):F d w (fun k=>k<w.heap.size) A n xs:=fun _ hW=>hd.C (fun k hlt=>hW k hlt hlt) h
theorem FA(h:d.R e W base ok (.slice A n cc) xs):F d W ok A n xs:=fun W' hW=>by
 have h2:=bC (FC h hW);rw[h2.1];exact h2.2.2
theorem Dz(h:FK d W ok x c):d.K W x c:=lq.now h
theorem E4(h:FK d W ok x c)(hok: ∀k,ok k→ok' k):FK d W ok' x c:=lq.mono h hok
theorem YA(h:FK d W ok x c):FK d W (fun k=>ok k∧k<W.heap.size) x c:=lq.bound h
theorem M0(h:FK d W ok x c)(hm: ∀k,ok k→k<W.heap.size→W1.heap[k]? =W.heap[k]?):FK d W1 ok x c:=lq.step h hm
theorem atg(h:d.M W base ok x c):FK d W ok x c:=fun _ hW=>d.kK (aiA h hW)
end
end Kd
end Go.Proofs.YtbpjidekjogfeaaW.cK
