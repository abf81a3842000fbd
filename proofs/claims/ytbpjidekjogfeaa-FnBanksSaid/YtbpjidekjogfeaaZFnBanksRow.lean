/- Used by the law FnBanks. -/
import Derived.Test.YtbpjidekjogfeaaRows
import Derived.Test.YtbpjidekjogfeaaZFnBanksx34
namespace Go.Proofs.Ytbpjidekjogfeaa.fnBanks
open Go.ChangeShapes Go.WideShapes Go.ChangeAt Go.RowKit Go.Proofs.Ytbpjidekjogfeaa.A Go.Proofs.YtbpjidekjogfeaaW.cN
open Go.ChangeMaps (open_string shut_string)
set_option linter.unusedVariables false
theorem own:ownKnob Try.prog.godebug=none:=by kernel_rfl
theorem laidOut:laidOutB Try.prog=true:=by kernel_rfl
set_option maxRecDepth 100000 in
theorem lifted(os:Os)(started:os.Started)(H:Type)(enc:TypeId×Value→H):
  ReturnsInHanded {} Try.checked os 12 .any (Rows.fnBanksSpec.pre6 enc Try.prog Try.f12 Rows.fnBanksRow.domain false) (Rows.fnBanksSpec.post enc Try.prog Try.f12 false true false false):=by
 refine returnsInHanded_of_change_sized (C:=Try.checked) own started (by kernel_rfl) Try.func12
  (ChangeSpec.witness6 (enc:=enc) (C:=Try.checked) false ⟨#[],#[.slice none 0 0],[]⟩ 8 (by kernel_rfl) (by kernel_rfl) (by kernel_rfl) (by kernel_rfl)) ?_
 intro W base args ds gs before apz hW hcnd aDH _;have hval: ∀(j:Nat) t v,Try.f12.params[j]? =some t→args[j]? =some v→Value.okWide Try.prog W .any base t v:=apz;have hW':=hW;obtain⟨p,q,hA0,hV,rfl,hfz,hnd⟩:=hW;have hA:DataW.TrodAll enc Try.prog W 0 (fun _=>true) true Try.f12.params.toList args.toList ds p:=hA0;rw[Try.params12]at hA hval;obtain⟨v0,vs0,d0,ds0,p0,q0,hargs,rfl,rfl,h0,r0⟩:=trodAll_cons hA;obtain⟨rfl,rfl,rfl⟩:=trodAll_nil r0;(obtain rfl:args= #[v0]:=by cases args;simp_all);obtain⟨rfl,rfl⟩:=trodVars_none hV;(have lt0: ∀x ∈ p0,x.block<W.heap.size:=by obtain⟨m,hm⟩:=h0;exact DataW.trod_lt m _ _ _ hm);obtain⟨b0,aRX,aJF,rfl⟩:=okWide_slice Try.underlying36 (hval 0 36 v0 rfl rfl);obtain⟨l0,⟨A0,c0,e0,hc0,cA⟩,w0⟩:=aEM aEH h0;obtain⟨rfl,rfl,rfl⟩:=aFv e0;obtain⟨k,hk⟩:=aEZ l0 w0;clear hA0 apz aDH;refine(jd.calls k _ _ l0 true W cA hc0 ⟨rfl⟩ hk).mono fun e W' he=>?_;obtain⟨he,awV⟩:=he;have bel:Below W.heap.size W W':=awV;subst he;exact⟨_,rfl,_,_,_,[],_,[],hW',trodAll_mk1 (shut_bool Try.underlying4 _),(trodAll_cons_mk (Below.trod laidOut (by kernel_rfl) (of_decide_eq_true (by kernel_rfl)) h0 bel lt0) trodAll_mk0),rfl,bel.frame _,fun h=>by cases h⟩
theorem over:Rows.fnBanksRow.holds Try.pinned (OpenSpec.ofChange Rows.fnBanksSpec):=
 OpenClaim.holds_of_wide 12 Try.f12 rfl rfl rfl rfl rfl rfl rfl ⟨rfl,rfl,rfl,rfl,rfl⟩ rfl rfl rfl rfl rfl (by kernel_rfl) Try.func12 (by kernel_rfl)
  (of_decide_eq_true (by kernel_rfl)) (by unfold Func.isWrapper;first|(rw[if_pos (by decide+kernel)];kernel_rfl)|(rw[if_neg (by decide+kernel)];exact⟨rfl,rfl⟩))
  (fun os started H enc _=>lifted os started H enc)
theorem proved:Rows.FnBanksSaid:=over
#print axioms proved
end Go.Proofs.Ytbpjidekjogfeaa.fnBanks
namespace Go.Proofs.Ytbpjidekjogfeaa
theorem fnBanks_holds:Rows.FnBanksSaid:=fnBanks.proved
end Go.Proofs.Ytbpjidekjogfeaa
