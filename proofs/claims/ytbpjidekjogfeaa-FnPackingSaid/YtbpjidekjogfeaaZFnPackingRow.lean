/- Used by the law FnPacking. -/
import Derived.Test.YtbpjidekjogfeaaRows
import Derived.Test.YtbpjidekjogfeaaZFnPackingx35
namespace Go.Proofs.Ytbpjidekjogfeaa.fnPacking
open Go.ChangeShapes Go.WideShapes Go.ChangeAt Go.RowKit Go.Proofs.Ytbpjidekjogfeaa.A Go.Proofs.YtbpjidekjogfeaaW.cK
open Go.ChangeMaps (open_string shut_string)
set_option linter.unusedVariables false
theorem own:ownKnob Try.prog.godebug=none:=by kernel_rfl
theorem laidOut:laidOutB Try.prog=true:=by kernel_rfl
set_option maxRecDepth 100000 in
theorem lifted(os:Os)(started:os.Started)(H:Type)(enc:TypeId×Value→H):
  ReturnsInHanded {} Try.checked os 14 .any (Rows.fnPackingSpec.pre6 enc Try.prog Try.f14 Rows.fnPackingRow.domain false) (Rows.fnPackingSpec.post enc Try.prog Try.f14 false true false false):=by
 refine returnsInHanded_of_change_sized (C:=Try.checked) own started (by kernel_rfl) Try.func14
  (ChangeSpec.witness6 (enc:=enc) (C:=Try.checked) false ⟨#[],#[.slice none 0 0],[]⟩ 8 (by kernel_rfl) (by kernel_rfl) (by kernel_rfl) (by kernel_rfl)) ?_
 intro W base args ds gs before apr hW hcnd aDs _;have hval: ∀(j:Nat) t v,Try.f14.params[j]? =some t→args[j]? =some v→Value.okWide Try.prog W .any base t v:=apr;have hW':=hW;obtain⟨p,q,hA0,hV,rfl,hfz,hnd⟩:=hW;have hA:DataW.TrodAll enc Try.prog W 0 (fun _=>true) true Try.f14.params.toList args.toList ds p:=hA0;rw[Try.params14]at hA hval;obtain⟨v0,vs0,d0,ds0,p0,q0,hargs,rfl,rfl,h0,r0⟩:=trodAll_cons hA;obtain⟨rfl,rfl,rfl⟩:=trodAll_nil r0;(obtain rfl:args= #[v0]:=by cases args;simp_all);obtain⟨rfl,rfl⟩:=trodVars_none hV;(have lt0: ∀x ∈ p0,x.block<W.heap.size:=by obtain⟨m,hm⟩:=h0;exact DataW.trod_lt m _ _ _ hm);obtain⟨b0,aR8,aJN,rfl⟩:=okWide_slice Try.underlying36 (hval 0 36 v0 rfl rfl);obtain⟨l0,⟨A0,c0,e0,hc0,cx⟩,w0⟩:=aEy aEu h0;obtain⟨rfl,rfl,rfl⟩:=aFu e0;obtain⟨k,hk⟩:=aEX l0 w0;clear hA0 apr aDs;refine(dw.calls k _ _ l0 true W cx hc0 ⟨rfl⟩ hk).mono fun e W' he=>?_;obtain⟨he,aw7⟩:=he;have bel:Below W.heap.size W W':=aw7;subst he;exact⟨_,rfl,_,_,_,[],_,[],hW',trodAll_mk1 (shut_bool Try.underlying4 _),(trodAll_cons_mk (Below.trod laidOut (by kernel_rfl) (of_decide_eq_true (by kernel_rfl)) h0 bel lt0) trodAll_mk0),rfl,bel.frame _,fun h=>by cases h⟩
theorem over:Rows.fnPackingRow.holds Try.pinned (OpenSpec.ofChange Rows.fnPackingSpec):=
 OpenClaim.holds_of_wide 14 Try.f14 rfl rfl rfl rfl rfl rfl rfl ⟨rfl,rfl,rfl,rfl,rfl⟩ rfl rfl rfl rfl rfl (by kernel_rfl) Try.func14 (by kernel_rfl)
  (of_decide_eq_true (by kernel_rfl)) (by unfold Func.isWrapper;first|(rw[if_pos (by decide+kernel)];kernel_rfl)|(rw[if_neg (by decide+kernel)];exact⟨rfl,rfl⟩))
  (fun os started H enc _=>lifted os started H enc)
theorem proved:Rows.FnPackingSaid:=over
#print axioms proved
end Go.Proofs.Ytbpjidekjogfeaa.fnPacking
namespace Go.Proofs.Ytbpjidekjogfeaa
theorem fnPacking_holds:Rows.FnPackingSaid:=fnPacking.proved
end Go.Proofs.Ytbpjidekjogfeaa
