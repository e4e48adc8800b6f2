/- Part 18: lemmas for the last text. -/
import Derived.Test.YtcndplokeppakaaGreatDoorRows
import Derived.ProofKit
import Derived.LaidMore
import Derived.OpenShut
import Derived.Stop.Joined
import Derived.SevenTiedAt
import Derived.Lay
set_option linter.unusedVariables false
set_option linter.unusedSimpArgs false
set_option maxRecDepth 100000
open Bool renaming true -> QS, false -> QT
open Go.Func renaming goes -> LX
open Go.OpenClaim renaming goesBy -> QO
open List renaming any_eq_false -> KH
open Option renaming some -> QQ
section
namespace Go.Proofs.YtcndplokeppakaaGreatDoor
open Go
theorem bCy:((Tryz.prog.make==QQ Rows.sourceErasesRow.make)=QS):=by kernel_rfl
end Go.Proofs.YtcndplokeppakaaGreatDoor
end
section
namespace Go.Proofs.YtcndplokeppakaaGreatDoor
open Go
theorem bCz:((Tryz.prog.mayEnter)=QS):=by kernel_rfl
end Go.Proofs.YtcndplokeppakaaGreatDoor
end
section
namespace Go.Proofs.YtcndplokeppakaaGreatDoor
open Go
theorem bCA:(Rows.sourceErasesRow.wfByText (OpenSpec.ofChange Rows.sourceErasesSpec)=QS):=by kernel_rfl
end Go.Proofs.YtcndplokeppakaaGreatDoor
end
section
namespace Go.Proofs.YtcndplokeppakaaGreatDoor
open Go
theorem bCB:(QS=Tryz.prog.looks []):=by kernel_rfl
end Go.Proofs.YtcndplokeppakaaGreatDoor
end
section
namespace Go.Proofs.YtcndplokeppakaaGreatDoor
open Go
theorem aLv{P:Program}(h:P.funcs.toList.any LX=QT)(f:FuncId):P.goes f=false:=by
 have h1:P.funcs.any LX=false:=by rw[<- Array.any_toList];exact h
 unfold Program.goes;rw[h1,Bool.and_false,Bool.or_false,Bool.eq_false_iff];intro hc;obtain⟨g,_,hg⟩:=List.any_eq_true.1 hc;rw[Option.any_eq_true]at hg;obtain⟨fn,e,hf⟩:=hg;rw[KH]at h;obtain⟨hi,rfl⟩:=Array.getElem?_eq_some_iff.1 e;exact h _ (Array.mem_toList_iff.2 (Array.getElem_mem hi)) hf
theorem aMC{P:Program}(h:P.funcs.toList.any LX=QT)(c:OpenClaim):QT=c.goesBy P:=by
 unfold QO Program.goesAt Program.goesFrom;have h2:(P.funcNamed c.func).any P.goes=false:=by
  cases P.funcNamed c.func with
  |none=>rfl
  |some f=>exact aLv h f
 have h3:P.inits.toList.any P.goes=false:=by rw[KH];intro x _;rw[aLv h x];exact Bool.noConfusion
 rw[h2,h3];split<;>rfl
theorem aQU:Tryz.prog.funcs.toList.any LX=false:=by kernel_rfl
theorem bCC:(QT=Rows.sourceErasesRow.goesBy Tryz.prog):=aMC aQU _
end Go.Proofs.YtcndplokeppakaaGreatDoor
end
