/- Used by the law FnBanks. -/
import Derived.Test.YtbpjidekjogfeaaZFnBanksx10
namespace Go.Proofs.YtbpjidekjogfeaaW.cN
open Go.RowKit
section
variable {w w' u:World} {m B g:Nat} {o:Obj} {row:Option Nat} {S:Nat→Prop} {a:Addr} {v:Value}
theorem aag(hq:w.drewN m=w')(h:Below B u w):Below B u w':=by subst hq;exact jB h m
theorem CH(hq:w.drewN m=w')(h:w.heap[g]? =some o):w'.heap[g]? =some o:=by subst hq;exact h
end
namespace Kd
section
variable {α:Type} {d:Kd α} {e base n m:Nat} {ok:Nat→Prop} {w w':World} {v:Value} {A:Option Addr} {xs:List α}
theorem Ku(hq:w.drewN m=w')(h:d.R e w base ok v xs):d.R e w' base ok v xs:=by subst hq;exact ZZ h m
end
end Kd
end Go.Proofs.YtbpjidekjogfeaaW.cN
