/- Used by the law FnBanks. -/
import Derived.Maps.OwnOps
import Derived.Maps.OwnSet
import Derived.Test.YtbpjidekjogfeaaZFnBanksx0
namespace Go.Proofs.Ytbpjidekjogfeaa.A
open Go.RowKit Go.Maps Go.Proofs.YtbpjidekjogfeaaW.cN
set_option linter.unusedVariables false
def gH(P:Program)(k e:TypeId)(w:World)(b:Nat)(S:List Int):Prop:=
 ∃D:DataW Unit,w.ownsMap P k (plainElem P e) b S.length D∧IsMap D∧ ∀x:Int,D.atKey (.int .i64 x) (.lit (.bool false))= .lit (.bool (decide (x ∈ S)))
theorem aEY{H:Type}{P:Program}{e:TypeId}(he:P.underlying e=some .bool){v:Value}{z:DataW H×List MemPlace}(h:plainElem P e v=some z): ∃x,v= .bool x∧z=(.lit (.bool x),[]):=by
 unfold plainElem at h;rw[he]at h;split at h
 ·cases h;exact⟨_,rfl,rfl⟩
 ·rename_i h2;cases h2
 ·rename_i h2;cases h2
 ·cases h
section
variable {P:Program} {k e t:TypeId} {w w1:World} {b:Nat} {S:List Int}
theorem gH.made(P:Program)(k e:TypeId)(w:World):gH P k e (w.alloc (.map #[] 0)) w.heap.size []:=
 ⟨.map [],World.ownsMap_made w P k _,isMap_empty,fun x=>by simp[DataW.atKey]⟩
theorem gH.lt(h:gH P k e w b S):b<w.heap.size:=by obtain⟨D,ho,_⟩:=h;exact ho.lt
theorem gH.kept{row:Option Nat}(h:gH P k e w b S)(hg:w.grownBy w1 row)(hne:some b≠row):gH P k e w1 b S:=by
 obtain⟨D,ho,hm,hx⟩:=h;exact⟨D,ho.kept hg hne,hm,hx⟩
theorem gH.alloc(h:gH P k e w b S)(o:Obj):gH P k e (w.alloc o) b S:=h.kept (World.grownBy_alloc w o none) (by simp)
theorem gH.drew(h:gH P k e w b S):gH P k e w.drew b S:=h
theorem gH.drewN(h:gH P k e w b S)(n:Nat):gH P k e (w.drewN n) b S:=by
 induction n generalizing w with
 |zero=>exact h
 |succ n ih=>rw[←World.drew_drewN];exact ih h.drew
theorem gH.below(h:gH P k e w b S)(hb:Below w.heap.size w w1):gH P k e w1 b S:=h.kept (abS hb none) (by simp)
theorem gH.setCell(h:gH P k e w b S){a:Addr}(ha:b≠a.block)(u:Value):gH P k e (w.setCell a u) b S:=by
 obtain⟨D,ho,hm,hx⟩:=h;exact⟨D,ho.setCell ha u,hm,hx⟩
theorem gH.look(h:gH P k e w b S)(hk:P.underlying k=some (.int .i64))(he:P.underlying e=some .bool)(ht:P.underlying t=some (.map k e))(hz:(zeroValue e).run P w= .ok (.bool false) w)
  (x:Int) (hx:(Lit.int .i64 x).wf=true):(Instr.lookup t (.map (some b)) (.int .i64 x) false).run P w= .ok (.bool (decide (x ∈ S))) w:=by
 obtain⟨D,ho,_,hat⟩:=h;obtain⟨v,ps,hrun,hv⟩:=ho.lookup (int_keyed hk) ht hz (plainElem_bool he false) (keyOf_int_mk hk hx);rw[hat x]at hv;obtain⟨y,rfl,hy⟩:=aEY he hv;simp only[Prod.mk.injEq,DataW.lit.injEq,Lit.bool.injEq]at hy;rw[hrun,hy.1]
theorem gH.put(h:gH P k e w b S)(hk:P.underlying k=some (.int .i64))(he:P.underlying e=some .bool)(ht:P.underlying t=some (.map k e))(hn:S.length<maxLen)
  (x:Int) (hx:(Lit.int .i64 x).wf=true): ∃w',(Instr.mapUpdate t (.map (some b)) (.int .i64 x) (.bool true)).run P w= .ok () w'∧gH P k e w' b (x::S)∧w.grownBy w' (some b):=by
 obtain⟨D,ho,hm,hat⟩:=h;obtain⟨w',hrun,ho',hg⟩:=ho.update (int_keyed hk) ht hn (keyOf_int_mk hk hx) (plainElem_bool he true);refine⟨w',hrun,⟨_,ho',hm.put _ _,fun y=>?_⟩,hg⟩;by_cases hy:y=x
 ·subst hy;rw[atKey_put_same hm (show WideAt.IsKeyLit (.int .i64 y) from trivial)];simp
 ·rw[atKey_put_other (by simpa using hy),hat y];simp[hy]
end
theorem aeb{P:Program}{W:World}{ops:Array Oper}{rest:List Oper}{o:Oper}{a:Act}{Q:Exit→Act→World→Prop}(k e:TypeId)(hgd:o.guard=none){N:Tmp}(_hd:o.dst=some N)(t:TypeId)(ho:o.op=Op.makeMap t none)
  (h: ∀g,g=W.heap.size→ ∀w1,gH P k e w1 g []→Below W.heap.size W w1→wpList P ops Q rest (a.put o.dst (.map (some g))) w1):wpList P ops Q (o::rest) a W:=by
 have hrun:(execOp a.eval o).run P W= .ok (.value (.map (some W.heap.size))) (W.alloc (.map #[] 0)):=by
  unfold execOp;rw[ho];simp[run_makeMap,Result.andThen]
 exact Kd.UM hgd hrun (h _ rfl _ (gH.made P k e W) (kN (Below.refl _ _) _))
theorem arT{P:Program}{k e:TypeId}(w:World){ops:Array Oper}{rest:List Oper}{o:Oper}{a:Act}{Q:Exit→Act→World→Prop}
  (hg:o.guard=none) (m x v:Operand) (t:TypeId) (hop:o.op=Op.mapUpdate t m x v) (hk:P.underlying k=some (.int .i64)) (he:P.underlying e=some .bool) (ht:P.underlying t=some (.map k e)) (b:Nat) (S:List Int)
  (hm:a.eval m= .map (some b)) (h:gH P k e w b S) (hn:S.length<maxLen) (y:Int) (hx:a.eval x= .int .i64 y) (hv:a.eval v= .bool true) (hw:(Lit.int .i64 y).wf=true)
  (hK: ∀w',gH P k e w' b (y::S)→w.grownBy w' (some b)→wpList P ops Q rest (a.put o.dst undef) w'):wpList P ops Q (o::rest) a w:=by
 refine wpList_plain hg fun K' hK'=>?_;obtain⟨w',hrun,r1,r2⟩:=h.put hk he ht hn y hw;unfold Oper.wp;simp[execOp,hop,hm,hx,hv,hrun,Result.andThen];exact hK' _ _ (hK w' r1 r2)
end Go.Proofs.Ytbpjidekjogfeaa.A
