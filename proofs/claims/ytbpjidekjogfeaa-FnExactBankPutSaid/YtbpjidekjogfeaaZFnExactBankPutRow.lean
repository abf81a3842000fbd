/- Used by the law FnExactBankPut. -/
import Derived.Test.YtbpjidekjogfeaaRows
import Derived.Test.YtbpjidekjogfeaaZFnExactBankPutx27
namespace Go.Proofs.Ytbpjidekjogfeaa.fnExactBankPut
open Go.ChangeShapes Go.WideShapes Go.ChangeAt Go.RowKit Go.Proofs.Ytbpjidekjogfeaa.A Go.Proofs.YtbpjidekjogfeaaW.cv
open Go.ChangeMaps (open_string shut_string)
set_option linter.unusedVariables false
theorem own:ownKnob Try.prog.godebug=none:=by kernel_rfl
theorem laidOut:laidOutB Try.prog=true:=by kernel_rfl
set_option maxRecDepth 100000 in
theorem lifted(os:Os)(started:os.Started)(H:Type)(enc:TypeId×Value→H):
  ReturnsInHanded {} Try.checked os 11 .any (Rows.fnExactBankPutSpec.pre6 enc Try.prog Try.f11 Rows.fnExactBankPutRow.domain false) (Rows.fnExactBankPutSpec.post enc Try.prog Try.f11 false true false false):=by
 refine returnsInHanded_of_change_sized (C:=Try.checked) own started (by kernel_rfl) Try.func11
  (ChangeSpec.witness6 (enc:=enc) (C:=Try.checked) false ⟨#[],#[.slice none 0 0,.int .i64 0,.int .i64 0],[]⟩ 8 (by kernel_rfl) (by kernel_rfl) (by kernel_rfl) (by kernel_rfl)) ?_
 intro W base args ds gs before ac4 hW hcnd apE _;have hval: ∀(j:Nat) t v,Try.f11.params[j]? =some t→args[j]? =some v→Value.okWide Try.prog W .any base t v:=ac4;have hW':=hW;obtain⟨p,q,Z6,hV,rfl,hfz,hnd⟩:=hW;have hA:DataW.TrodAll enc Try.prog W 0 (fun _=>true) true Try.f11.params.toList args.toList ds p:=Z6;rw[Try.params11]at hA hval;obtain⟨v0,vs0,d0,ds0,p0,q0,hargs,rfl,rfl,h0,r0⟩:=trodAll_cons hA;obtain⟨v1,vs1,d1,ds1,p1,q1,rfl,rfl,rfl,h1,r1⟩:=trodAll_cons r0;obtain⟨v2,vs2,d2,ds2,p2,q2,rfl,rfl,rfl,h2,r2⟩:=trodAll_cons r1;obtain⟨rfl,rfl,rfl⟩:=trodAll_nil r2;(obtain rfl:args= #[v0,v1,v2]:=by cases args;simp_all);obtain⟨rfl,rfl⟩:=trodVars_none hV;(have lt0: ∀x ∈ p0,x.block<W.heap.size:=by obtain⟨m,hm⟩:=h0;exact DataW.trod_lt m _ _ _ hm);obtain⟨b0,aDv,au3,rfl⟩:=okWide_slice Try.underlying22 (hval 0 22 v0 rfl rfl);obtain⟨l0,⟨A0,c0,e0,hc0,bK⟩,w0⟩:=aqY aqR h0;obtain⟨rfl,rfl,rfl⟩:=arG e0;(have lt1: ∀x ∈ p1,x.block<W.heap.size:=by obtain⟨m,hm⟩:=h1;exact DataW.trod_lt m _ _ _ hm);obtain⟨a1,rfl,_,_,w1⟩:=open_int Try.underlying3 (hval 1 3 v1 rfl rfl) h1;(have lt2: ∀x ∈ p2,x.block<W.heap.size:=by obtain⟨m,hm⟩:=h2;exact DataW.trod_lt m _ _ _ hm);obtain⟨a2,rfl,_,_,w2⟩:=open_int Try.underlying3 (hval 2 3 v2 rfl rfl) h2;obtain⟨k,hk⟩:=arc l0 a1 a2 w0 w1 w2;clear Z6 ac4 apE;refine(DG.calls k _ _ l0 a1 a2 true W bK hc0 ⟨rfl⟩ hk).mono fun e W' he=>?_;obtain⟨he,ai1⟩:=he;have KQ:Below W.heap.size W W':=ai1;subst he
 exact⟨_,rfl,_,_,_,[],_,[],hW',trodAll_mk1 (shut_bool Try.underlying4 _),(trodAll_cons_mk (Below.trod laidOut (by kernel_rfl) (of_decide_eq_true (by kernel_rfl)) h0 KQ lt0) (trodAll_cons_mk (Below.trod laidOut (by kernel_rfl) (of_decide_eq_true (by kernel_rfl)) h1 KQ lt1) (trodAll_cons_mk (Below.trod laidOut (by kernel_rfl) (of_decide_eq_true (by kernel_rfl)) h2 KQ lt2) trodAll_mk0))),rfl,KQ.frame _,fun h=>by cases h⟩
theorem over:Rows.fnExactBankPutRow.holds Try.pinned (OpenSpec.ofChange Rows.fnExactBankPutSpec):=
 OpenClaim.holds_of_wide 11 Try.f11 rfl rfl rfl rfl rfl rfl rfl ⟨rfl,rfl,rfl,rfl,rfl⟩ rfl rfl rfl rfl rfl (by kernel_rfl) Try.func11 (by kernel_rfl)
  (of_decide_eq_true (by kernel_rfl)) (by unfold Func.isWrapper;first|(rw[if_pos (by decide+kernel)];kernel_rfl)|(rw[if_neg (by decide+kernel)];exact⟨rfl,rfl⟩))
  (fun os started H enc _=>lifted os started H enc)
theorem proved:Rows.FnExactBankPutSaid:=over
#print axioms proved
end Go.Proofs.Ytbpjidekjogfeaa.fnExactBankPut
namespace Go.Proofs.Ytbpjidekjogfeaa
theorem fnExactBankPut_holds:Rows.FnExactBankPutSaid:=fnExactBankPut.proved
end Go.Proofs.Ytbpjidekjogfeaa
