/- Used by the law FnExactBankPut. -/
import Derived.Test.YtbpjidekjogfeaaZFnExactBankPutx8
namespace Go.Proofs.YtbpjidekjogfeaaW.cv
open Go.RowKit
def js(P:World→Prop)(W:World)(ok:Nat→Prop):Prop:= ∀W':World,(∀k,ok k→k<W.heap.size→W'.heap[k]? =W.heap[k]?)→P W'
theorem amW{W W1:World}{k:Nat}(h:W1.heap[k]? =W.heap[k]?)(hlt:k<W.heap.size):k<W1.heap.size:=by
 rw[Array.getElem?_eq_getElem hlt]at h;exact(Array.getElem?_eq_some_iff.1 h).1
namespace js
variable {P Q:World→Prop} {W W1:World} {ok ok':Nat→Prop}
theorem now(h:js P W ok):P W:=h W (fun _ _ _=>rfl)
theorem mono(h:js P W ok)(hok: ∀k,ok k→ok' k):js P W ok':=fun W' hW=>h W' (fun k hk hlt=>hW k (hok k hk) hlt)
theorem bound(h:js P W ok):js P W (fun k=>ok k∧k<W.heap.size):=fun W' hW=>h W' (fun k hk hlt=>hW k ⟨hk,hlt⟩ hlt)
theorem step(h:js P W ok)(hm: ∀k,ok k→k<W.heap.size→W1.heap[k]? =W.heap[k]?):js P W1 ok:=fun W' hW=>h W' (fun k hk hlt=>(hW k hk (amW (hm k hk hlt) hlt)).trans (hm k hk hlt))
theorem imp(h:js P W ok)(hi: ∀W',P W'→Q W'):js Q W ok:=fun W' hW=>hi W' (h W' hW)
theorem old(h:js P W ok)(hb:Below W.heap.size W W1):js P W1 (fun k=>ok k∧k<W.heap.size):=(h.bound).step (fun k _ hlt=>hb.block k hlt)
end js
namespace Kd
def F{α:Type}(d:Kd α)(W:World)(ok:Nat→Prop)(A:Option Addr)(n:Nat)(xs:List α):Prop:=js (fun W=>d.C W A n xs) W ok
def FK{α:Type}(d:Kd α)(W:World)(ok:Nat→Prop)(x:α)(c:List Value):Prop:=js (fun W=>d.K W x c) W ok
section
variable {α β:Type} {d:Kd α} {e base n n' cc g N:Nat} {ok ok' cr S:Nat→Prop} {w w0 w1 W W1:World} {A A':Option Addr} {u v v1:Value} {xs:List α} {xs':List β} {d':Kd β} {x:α} {c:List Value}
theorem afV(h:F d W ok A n xs):d.C W A n xs:=js.now h
theorem Ka(h:F d W ok A n xs)(hok: ∀k,ok k→ok' k):F d W ok' A n xs:=js.mono h hok
theorem afN(h:F d W ok A n xs):F d W (fun k=>ok k∧k<W.heap.size) A n xs:=js.bound h
theorem WG(h:F d W ok A n xs)(hm: ∀k,ok k→k<W.heap.size→W1.heap[k]? =W.heap[k]?):F d W1 ok A n xs:=js.step h hm
theorem WE(h:F d W ok A n xs)(hi: ∀W',d.C W' A n xs→d'.C W' A' n' xs'):F d' W ok A' n' xs':=js.imp h hi
theorem Cw(h:F d W ok A n xs)(hb:Below W.heap.size W W1):F d W1 ok A n xs:=WG h (fun k _ hlt=>hb.block k hlt)
theorem afM(h:F d W ok A n xs)(o:Obj):F d (W.alloc o) ok A n xs:=Cw h (jB (Below.refl _ _) o)
theorem afP(h:F d W ok A n xs):F d W.drew ok A n xs:=Cw h (Fg (Below.refl _ _))
theorem afQ(h:F d W ok A n xs)(m:Nat):F d (W.drewN m) ok A n xs:=Cw h (iy (Below.refl _ _) m)
theorem afT(h:F d W ok A n xs){p:Addr}(hok: ∀k,ok k→k≠p.block)(u:Value):F d (W.setCell p u) ok A n xs:=WG h (fun k hk _=>Below.heap_setCell W p u k (hok k hk))
theorem afU(d:Kd α)(W:World)(ok:Nat→Prop):F d W ok none ([]:List α).length []:=fun W' _=>afJ d W'
theorem afR(h:F d W ok A n xs)(hbase: ∀k,v.ownBlock=some k→W.heap.size≤k)(hb:Below W.heap.size W W1):F d W1 (fun k=>ok k∧some k≠v.ownBlock) A n xs:=
 Ka (js.old h hb) (fun k hk=>⟨hk.1,fun he=>by have:=hbase k he.symm;have:=hk.2;omega⟩)
theorem afS(h:F d W ok A n xs)(a:Nat)(ha:W.heap.size≤a):F d W (fun k=>ok k∧k≠a) A n xs:=Ka (afN h) (fun k hk=>⟨hk.1,by have:=hk.2;omega⟩)
theorem afW(h:F d W ok A n xs)(hb:Below W.heap.size W W1):F d W1 (fun k=>ok k∧k<W.heap.size) A n xs:=js.old h hb
theorem afY(h:F d W1 (fun k=>ok k∧k<N) A n xs)(hbase: ∀k,v.ownBlock=some k→N≤k):F d W1 (fun k=>(ok k∧some k≠v.ownBlock)∧k<N) A n xs:=
 Ka h (fun k hk=>⟨⟨hk.1,fun he=>Nat.lt_irrefl _ (Nat.lt_of_lt_of_le hk.2 (hbase k he.symm))⟩,hk.2⟩)
theorem WB(hd:Heap d)(h:d.C w A n xs):F d w (fun k=>k<w.heap.size) A n xs:=fun _ hW=>hd.C (fun k hlt=>hW k hlt hlt) h
theorem PC(h:d.R e W base ok (.slice A n cc) xs):F d W ok A n xs:=fun W' hW=>by
 have h2:=dH (CQ h hW);rw[h2.1];exact h2.2.2
theorem Cv(h:FK d W ok x c):d.K W x c:=js.now h
theorem Cu(h:FK d W ok x c)(hok: ∀k,ok k→ok' k):FK d W ok' x c:=js.mono h hok
theorem WD(h:FK d W ok x c):FK d W (fun k=>ok k∧k<W.heap.size) x c:=js.bound h
theorem J9(h:FK d W ok x c)(hm: ∀k,ok k→k<W.heap.size→W1.heap[k]? =W.heap[k]?):FK d W1 ok x c:=js.step h hm
theorem afL(h:d.M W base ok x c):FK d W ok x c:=fun _ hW=>d.gL (Pd h hW)
end
end Kd
end Go.Proofs.YtbpjidekjogfeaaW.cv
