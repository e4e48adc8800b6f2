/- Part 8: lemmas for the last text. -/
import Derived.Test.YtdljbhnhogpopaaGreatDoorK07
set_option linter.defProp false
set_option linter.unusedVariables false
set_option linter.unusedSimpArgs false
open Option renaming some -> N1
section
namespace Go.AM
open Go
def bIc:List (LA×AV):=[(bHa,.tup [.str [72,105],.int .i64 0])]
def bId:gS Go.Proofs.Tryz.prog aBx λf' args H=>if f'=58 then (tU bIc args H).map (cT H)else none:=by refine aGt bIb aBi ⟨Go.Proofs.Tryz.f58,Go.Proofs.Tryz.func58,by kernel_rfl,by kernel_rfl⟩ λa v h=>?_;simp only[bIc,List.mem_cons,Prod.mk.injEq,or_false,List.not_mem_nil]at h;obtain⟨rfl,rfl⟩:=h;exact⟨rfl,by kernel_rfl,bGz bIn⟩
def aUC(f:Nat):Option aIP:=match f with
 |41=>N1 (tU bI5)
 |58=>N1 (tU bIc)
 |f=>aO4 f
noncomputable def AL:af:=⟨fnK,aUC⟩
def bAY:Good Go.Proofs.Tryz.prog aBx AL:=aLW rfl (by kernel_rfl) rfl λf p h=>by
 have h:aUC f=N1 p:=h;unfold aUC at h;split at h
 ·cases h;exact .inr bFD
 ·cases h;exact .inr bId
 exact .inl h
end Go.AM
end
