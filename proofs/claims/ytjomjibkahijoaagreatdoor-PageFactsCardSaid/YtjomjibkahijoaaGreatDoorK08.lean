/- Part 8: lemmas for the last text. -/
import Derived.Test.YtjomjibkahijoaaGreatDoorK07
set_option linter.unusedVariables false
set_option linter.unusedSimpArgs false
open Option renaming some -> Qr
section
namespace Go.AM
open Go
def bGK:List (LA×AV):=[(bGm,.tup [.str [72,105],.int .i64 0])]
theorem bGL:gS Go.Proofs.Tryz.prog aBx fun f' args H=>if f'=21 then (tU bGK args H).map (cT H)else none:=by refine aGt bGJ aBi ⟨Go.Proofs.Tryz.f21,Go.Proofs.Tryz.func21,by kernel_rfl,by kernel_rfl⟩ fun a v h=>?_;simp only[bGK,List.mem_cons,Prod.mk.injEq,or_false,List.not_mem_nil]at h;obtain⟨rfl,rfl⟩:=h;exact⟨rfl,by kernel_rfl,bG6 bGP⟩
def aUC(f:Nat):Option aIP:=match f with
 |7=>Qr (tU bGE)
 |21=>Qr (tU bGK)
 |f=>aO4 f
noncomputable def AL:af:=⟨fnK,aUC⟩
theorem bAY:Good Go.Proofs.Tryz.prog aBx AL:=aLW rfl (by kernel_rfl) rfl fun f p h=>by
 have h:aUC f=Qr p:=h;unfold aUC at h;split at h
 ·cases h;exact .inr bFq
 ·cases h;exact .inr bGL
 exact .inl h
end Go.AM
end
