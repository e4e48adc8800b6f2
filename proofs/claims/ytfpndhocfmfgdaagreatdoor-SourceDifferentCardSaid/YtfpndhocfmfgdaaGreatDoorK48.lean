/- Part 48: lemmas for the last text. -/
import Derived.Test.YtfpndhocfmfgdaaGreatDoorRows
import Derived.ProofKit
import Derived.LaidMore
import Derived.OpenShut
import Derived.Stop.Joined
import Derived.SevenTiedAt
import Derived.Lay
set_option linter.unusedVariables false
set_option linter.unusedSimpArgs false
section
namespace Go.Proofs.YtfpndhocfmfgdaaGreatDoor
open Go
set_option maxRecDepth 100000
theorem aYs:((Tryz.prog.make==some Rows.sourceDifferentRow.make)=true):=by kernel_rfl
end Go.Proofs.YtfpndhocfmfgdaaGreatDoor
end
section
namespace Go.Proofs.YtfpndhocfmfgdaaGreatDoor
open Go
set_option maxRecDepth 100000
theorem aYt:((Tryz.prog.mayEnter)=true):=by kernel_rfl
end Go.Proofs.YtfpndhocfmfgdaaGreatDoor
end
section
namespace Go.Proofs.YtfpndhocfmfgdaaGreatDoor
open Go
set_option maxRecDepth 100000
theorem aYu:(Rows.sourceDifferentRow.wfByText (OpenSpec.ofChange Rows.sourceDifferentSpec)=true):=by kernel_rfl
end Go.Proofs.YtfpndhocfmfgdaaGreatDoor
end
section
namespace Go.Proofs.YtfpndhocfmfgdaaGreatDoor
open Go
set_option maxRecDepth 100000
theorem aYv:(true=Tryz.prog.looks []):=by kernel_rfl
end Go.Proofs.YtfpndhocfmfgdaaGreatDoor
end
section
namespace Go.Proofs.YtfpndhocfmfgdaaGreatDoor
open Go
set_option maxRecDepth 100000
theorem aIG{P:Program}(h:P.funcs.toList.any Func.goes=false)(f:FuncId):P.goes f=false:=by
 have h1:P.funcs.any Func.goes=false:=by rw[<- Array.any_toList];exact h
 unfold Program.goes;rw[h1,Bool.and_false,Bool.or_false,Bool.eq_false_iff];intro hc;obtain⟨g,_,hg⟩:=List.any_eq_true.1 hc;rw[Option.any_eq_true]at hg;obtain⟨fn,e,hf⟩:=hg;rw[List.any_eq_false]at h;obtain⟨hi,rfl⟩:=Array.getElem?_eq_some_iff.1 e;exact h _ (Array.mem_toList_iff.2 (Array.getElem_mem hi)) hf
theorem aJH{P:Program}(h:P.funcs.toList.any Func.goes=false)(c:OpenClaim):false=c.goesBy P:=by
 unfold OpenClaim.goesBy Program.goesAt Program.goesFrom;have h2:(P.funcNamed c.func).any P.goes=false:=by
  cases P.funcNamed c.func with
  |none=>rfl
  |some f=>exact aIG h f
 have h3:P.inits.toList.any P.goes=false:=by
  rw[List.any_eq_false];intro x _;rw[aIG h x];exact Bool.noConfusion
 rw[h2,h3]
 split<;>rfl
theorem aNG:Tryz.prog.funcs.toList.any Func.goes=false:=by kernel_rfl
theorem aYw:(false=Rows.sourceDifferentRow.goesBy Tryz.prog):=aJH aNG _
end Go.Proofs.YtfpndhocfmfgdaaGreatDoor
end
