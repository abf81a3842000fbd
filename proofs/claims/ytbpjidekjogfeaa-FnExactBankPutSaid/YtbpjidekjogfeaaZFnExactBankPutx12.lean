/- Used by the law FnExactBankPut. -/
import Derived.Test.YtbpjidekjogfeaaZFnExactBankPutx10
namespace Go.Proofs.YtbpjidekjogfeaaW.cv
open Go.RowKit
namespace Kd
section
variable {α:Type} {d:Kd α} {e base n cap g:Nat} {ok ok' cr:Nat→Prop} {w w1 W:World} {v v1:Value} {xs ys:List α}
theorem ahU{rows:List (List Value)}(hR:(raw d.sz).R e w1 base (fun k=>k=W.heap.size) v1 rows)(hg:W.grownBy w1 none)(hat: ∃b,v1.ownBlock=some b∧W.heap.size≤b)(hl:rows.length=xs.length)(hf: ∀(j:Nat) (x:α) (c:List Value),xs[j]? =some x→rows[j]? =some c→FK d W cr x c)
  (hok: ∀k,cr k→ok k) (iP:ok W.heap.size):N d e w1 base ok v1 xs:=by
 obtain⟨b,hb,hle⟩:=hat;refine⟨fun k hk=>by rw[hR.1 k hk];exact iP,rows,hl,aee hR,fun j x c hx hc=>?_⟩;refine Cu (J9 (WD (hf j x c hx hc)) (fun k hk hlt=>hg.block k hlt (by simp))) (fun k hk=>⟨hok k hk.1,fun he=>?_⟩);rw[hb]at he;(injection he with he);have:=hk.2;omega
theorem ahX{rows:List (List Value)}{i:Int}{x':α}{c':List Value}(h0: ∀k,(Value.slice (some ⟨g,0,none⟩) n cap).ownBlock=some k→ok k)(hl:rows.length=xs.length)(hf: ∀(j:Nat) (x:α) (c:List Value),xs[j]? =some x→rows[j]? =some c→FK d W (fun k=>ok k∧some k≠(Value.slice (some ⟨g,0,none⟩) n cap).ownBlock) x c)
  (hR:(raw d.sz).R e w1 base (fun _=>True) (.slice (some ⟨g,0,none⟩) n cap) (rows.set i.toNat c')) (hg:W.grownBy w1 (some g)) (hM:FK d W cr x' c') (jQ: ∀k,cr k→ok k∧k≠g):N d e w1 base ok (.slice (some ⟨g,0,none⟩) n cap) (xs.set i.toNat x'):=by
 (have qM:some g=(Value.slice (some ⟨g,0,none⟩) n cap).ownBlock:=by simp[Value.ownBlock]);refine⟨h0,rows.set i.toNat c',by rw[List.length_set,List.length_set,hl],aee hR,fun j x c hx hc=>?_⟩;(have hjl:j<xs.length:=by have:=(List.getElem?_eq_some_iff.1 hx).1;rwa [List.length_set]at this);by_cases hji:j=i.toNat
 ·subst hji;rw[List.getElem?_set_self hjl]at hx;rw[List.getElem?_set_self (by omega)]at hc;(injection hx with hx);(injection hc with hc);rw[←hx,←hc];exact Cu (J9 hM (fun k hk hlt=>hg.block k hlt (fun he=>(jQ k hk).2 (by injection he)))) (fun k hk=>⟨(jQ k hk).1,fun he=>(jQ k hk).2 (by rw[←qM]at he;injection he)⟩)
 ·rw[List.getElem?_set_ne (Ne.symm hji)]at hx hc;exact J9 (hf j x c hx hc) (fun k hk hlt=>hg.block k hlt (by rw[qM];exact hk.2))
theorem ahW(h:N d e W base ok (.slice (some ⟨g,0,none⟩) n cap) xs)(i:Int)(h0:0≤i)(h1:i<n){c seg:List Value}{j:Nat}(nU:c.length=d.sz)(lf: ∀j u,c[j]? =some u→W.cell? ⟨g,i.toNat*d.sz+j,none⟩=some u)
  (hj:j+seg.length≤d.sz) {x':α} (hM:FK d W cr x' (c.take j++seg++c.drop (j+seg.length))) (jQ: ∀k,cr k→ok k∧k≠g):
  N d e (W.setCells g (i.toNat*d.sz+j) seg) base ok (.slice (some ⟨g,0,none⟩) n cap) (xs.set i.toNat x')∧W.grownBy (W.setCells g (i.toNat*d.sz+j) seg) (some g):=by
 obtain⟨hown,rows,hl,hR,hf⟩:=h;obtain⟨h2,h3⟩:=o3 (arl hR) i h0 h1 (c:=c) (seg:=seg) (j:=j) (x':=c.take j++seg++c.drop (j+seg.length)) (cr:=fun _=>False) nU lf hj ⟨rfl,d.jt (Cv hM),d.iT (Cv hM)⟩ (fun _ hk=>hk.elim);exact⟨ahX hown hl hf h2 h3 hM jQ,h3⟩
end
section
variable {P:Program} {ops:Array Oper} {rest:List Oper} {o:Oper} {a:Act} {Q:Exit→Act→World→Prop} {Kc:Act→World→Prop} {α:Type}
theorem ahS(d:Kd α){w0 W:World}(base e:Nat)(hw:Region.wanted o (yielded ops a.tmps)=true){N':Tmp}(_hd:o.dst=some N'){xs:List α}{inner:List Value}{ok cr:Nat→Prop}
  (hrun:(execOp a.eval o).run P W= .ok (.value (.slice (some ⟨W.heap.size,0,none⟩) xs.length xs.length)) (W.alloc (.cells inner.toArray e)))
  (uZ:bY (FK d W cr) d.sz xs inner) (hok: ∀k,cr k→ok k) (iP:ok W.heap.size) (HB:Below base w0 W) (hbase:base≤W.heap.size) (hm:xs.length≤9223372036854775807)
  (h: ∀v1 w1,N d e w1 base ok v1 xs→Below base w0 w1→W.grownBy w1 none→(∃b,v1.ownBlock=some b∧W.heap.size≤b)→Kc (a.put o.dst v1) w1):
  if Region.wanted o (yielded ops a.tmps)=true then Oper.wp P o a W Kc Q else Kc (a.put o.dst undef) W:=by
 refine xV (raw d.sz) base e hw _hd (xs:=chunks d.sz xs.length inner) (inner:=inner) (ok:=fun k=>k=W.heap.size) (cr:=fun _=>False) (by rw[yh];exact hrun) (ael uZ (fun y c hk=>⟨d.jt (Cv hk),d.iT (Cv hk)⟩)) (fun _ hk=>hk.elim) rfl HB hbase (by rw[yh];exact hm) ?_;intro v1 w1 hr hb hg hat;exact h v1 w1 (ahU hr hg hat (yh _ _ _) (fun j y c hy hc=>by rw[Qq hc];exact uZ.2 j y hy) hok iP) hb hg hat
end
end Kd
end Go.Proofs.YtbpjidekjogfeaaW.cv
