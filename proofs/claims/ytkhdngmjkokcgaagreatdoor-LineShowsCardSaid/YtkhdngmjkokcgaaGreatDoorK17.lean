/- Part 17. -/
import Derived.Test.YtkhdngmjkokcgaaGreatDoorRows
import Derived.ProofKit
import Derived.LaidMore
import Derived.OpenShut
import Derived.Stop.Joined
import Derived.SevenTiedAt
import Derived.Lay
set_option linter.all false
set_option maxRecDepth 100000
open Bool renaming true->Pa,false->Po
open Go.Func renaming goes->LX
section
namespace Go.Proofs.YtkhdngmjkokcgaaGreatDoor
open Go
def bCy:((Tryz.prog.make==Option.some Rows.lineShowsRow.make)=Pa):=by kernel_rfl
end Go.Proofs.YtkhdngmjkokcgaaGreatDoor
end
section
namespace Go.Proofs.YtkhdngmjkokcgaaGreatDoor
open Go
def bCz:((Tryz.prog.mayEnter)=Pa):=by kernel_rfl
end Go.Proofs.YtkhdngmjkokcgaaGreatDoor
end
section
namespace Go.Proofs.YtkhdngmjkokcgaaGreatDoor
open Go
def bCA:(Rows.lineShowsRow.wfByText (OpenSpec.ofChange Rows.lineShowsSpec)=Pa):=by kernel_rfl
end Go.Proofs.YtkhdngmjkokcgaaGreatDoor
end
section
namespace Go.Proofs.YtkhdngmjkokcgaaGreatDoor
open Go
def bCB:(Pa=Tryz.prog.looks []):=by kernel_rfl
end Go.Proofs.YtkhdngmjkokcgaaGreatDoor
end
section
namespace Go.Proofs.YtkhdngmjkokcgaaGreatDoor
open Go
def aLv{P:Program}(h:P.funcs.toList.any LX=Po)(f:FuncId):P.goes f=false:=by
 have h1:P.funcs.any LX=false:=by rw[<- Array.any_toList];exact h
 unfold Program.goes;rw[h1,Bool.and_false,Bool.or_false,Bool.eq_false_iff];intro hc;obtain⟨g,_,hg⟩:=List.any_eq_true.1 hc;rw[Option.any_eq_true]at hg;obtain⟨fn,e,hf⟩:=hg;rw[List.any_eq_false]at h;obtain⟨hi,rfl⟩:=Array.getElem?_eq_some_iff.1 e;exact h _ (Array.mem_toList_iff.2 (Array.getElem_mem hi)) hf
def aMC{P:Program}(h:P.funcs.toList.any LX=Po)(c:OpenClaim):Po=c.goesBy P:=by
 unfold Go.OpenClaim.goesBy Program.goesAt Program.goesFrom;have h2:(P.funcNamed c.func).any P.goes=false:=by
  cases P.funcNamed c.func with
  |none=>rfl
  |some f=>exact aLv h f
 have h3:P.inits.toList.any P.goes=false:=by rw[List.any_eq_false];intro x _;rw[aLv h x];exact Bool.noConfusion
 rw[h2,h3];split<;>rfl
def aQU:Tryz.prog.funcs.toList.any LX=false:=by kernel_rfl
def bCC:(Po=Rows.lineShowsRow.goesBy Tryz.prog):=aMC aQU _
end Go.Proofs.YtkhdngmjkokcgaaGreatDoor
end
