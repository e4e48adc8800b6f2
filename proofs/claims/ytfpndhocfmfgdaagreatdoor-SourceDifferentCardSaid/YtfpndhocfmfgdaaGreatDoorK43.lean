/- Part 43: lemmas for the last text. -/
import Derived.Test.YtfpndhocfmfgdaaGreatDoorK40
import Derived.Test.YtfpndhocfmfgdaaGreatDoorK42
set_option linter.unusedVariables false
set_option linter.unusedSimpArgs false
section
set_option maxRecDepth 100000
namespace Go.AM
open Go
theorem aRY:NoYF AM0 where
 fn:=by kernel_rfl
 prim:=by kernel_rfl
theorem aJE:PlaneFns AM0 gZ where
 yf:=aRY
 turn:=⟨by kernel_rfl,by kernel_rfl⟩
 sign:=⟨by kernel_rfl,by kernel_rfl⟩
 on:=⟨by kernel_rfl,by kernel_rfl⟩
 meet:=⟨by kernel_rfl,by kernel_rfl⟩
 seg:=⟨by kernel_rfl,by kernel_rfl⟩
 seg1:=⟨by kernel_rfl,by kernel_rfl⟩
 coll:=⟨by kernel_rfl,by kernel_rfl⟩
 app:=⟨by kernel_rfl,by kernel_rfl⟩
theorem aJF:HasPlane AM0 gZ where
 toPlaneFns:=aJE
 shaped:=⟨by kernel_rfl,by kernel_rfl⟩
 simple:=⟨by kernel_rfl,by kernel_rfl⟩
 conS:=⟨147,⟨by kernel_rfl,by kernel_rfl⟩,⟨by kernel_rfl,by kernel_rfl⟩⟩
 conP:=⟨149,⟨by kernel_rfl,by kernel_rfl⟩,⟨by kernel_rfl,by kernel_rfl⟩⟩
 v1:=⟨by kernel_rfl,by kernel_rfl⟩
 v2:=⟨by kernel_rfl,by kernel_rfl⟩
 v3:=⟨by kernel_rfl,by kernel_rfl⟩
 v4:=⟨by kernel_rfl,by kernel_rfl⟩
 v5:=⟨by kernel_rfl,by kernel_rfl⟩
 v6:=⟨by kernel_rfl,by kernel_rfl⟩
 valid:=⟨by kernel_rfl,by kernel_rfl⟩
theorem aNB:RepAll AM0 gZ 181 195 where
 ws:=⟨by kernel_rfl,by kernel_rfl⟩
 cc:=by kernel_rfl
 str:=by kernel_rfl
 grow:=by kernel_rfl
 cnt:=by kernel_rfl
 ix1:=by kernel_rfl
 ix2:=⟨by kernel_rfl,by kernel_rfl⟩
 ix:=⟨by kernel_rfl,by kernel_rfl⟩
 rep:=⟨by kernel_rfl,by kernel_rfl⟩
 repAll:=⟨by kernel_rfl,by kernel_rfl⟩
theorem aNC:WrtFns AM0 gZ 181 195 where
 toRepAll:=aNB
 join:=by kernel_rfl
 itoa:=by kernel_rfl
 lines:=⟨by kernel_rfl,by kernel_rfl⟩
 runs:=⟨by kernel_rfl,by kernel_rfl⟩
 sum:=⟨by kernel_rfl,by kernel_rfl⟩
theorem aND:MelFns AM0 gZ 181 195 where
 toWrtFns:=aNC
 note:=⟨by kernel_rfl,by kernel_rfl⟩
 bar:=⟨by kernel_rfl,by kernel_rfl⟩
 melody:=⟨by kernel_rfl,by kernel_rfl⟩
theorem aLu:GridFns AM0 gZ 181 195 where
 toMelFns:=aND
 newR:=⟨by kernel_rfl,by kernel_rfl⟩
 rpl:=aIA
 bsr:=⟨by kernel_rfl,by kernel_rfl⟩
 num:=by kernel_rfl
 grid:=⟨by kernel_rfl,by kernel_rfl⟩
theorem aJG:HasCheck AM0 gZ 181 where
 valid:=aJD
 form:=aLt
 plane:=aJF
 check:=⟨by kernel_rfl,by kernel_rfl⟩
theorem aLv:HasText AM0 gZ 181 195 where
 chk:=aJG
 wrt:=aLu
 appInt:=aJA ⟨by kernel_rfl,by kernel_rfl⟩ ⟨by kernel_rfl,by kernel_rfl⟩ (by kernel_rfl)
 ways:=⟨by kernel_rfl,by kernel_rfl⟩
 w1:=⟨by kernel_rfl,by kernel_rfl⟩
 w3:=⟨by kernel_rfl,by kernel_rfl⟩
 w4:=⟨by kernel_rfl,by kernel_rfl⟩
 w6:=⟨by kernel_rfl,by kernel_rfl⟩
 w8:=⟨by kernel_rfl,by kernel_rfl⟩
 w10:=⟨by kernel_rfl,by kernel_rfl⟩
 text:=⟨by kernel_rfl,by kernel_rfl⟩
theorem aLw:DiffFns AM0 gZ where
 law:=⟨by kernel_rfl,by kernel_rfl⟩
 exam:=⟨by kernel_rfl,by kernel_rfl⟩
 spoilt:=⟨by kernel_rfl,by kernel_rfl⟩
 spoiltB:=⟨by kernel_rfl,by kernel_rfl⟩
 spoiltQ:=⟨by kernel_rfl,by kernel_rfl⟩
 blocks:=⟨by kernel_rfl,by kernel_rfl⟩
 around:=⟨by kernel_rfl,by kernel_rfl⟩
 decimal:=⟨by kernel_rfl,by kernel_rfl⟩
 take:=⟨by kernel_rfl,by kernel_rfl⟩
 block:=⟨by kernel_rfl,by kernel_rfl⟩
 fact:=⟨by kernel_rfl,by kernel_rfl⟩
 has:=⟨by kernel_rfl,by kernel_rfl⟩
 question:=⟨by kernel_rfl,by kernel_rfl⟩
 at':=⟨by kernel_rfl,by kernel_rfl⟩
 runs:=⟨by kernel_rfl,by kernel_rfl⟩
 expr:=⟨by kernel_rfl,by kernel_rfl⟩
 sum:=⟨by kernel_rfl,by kernel_rfl⟩
 grid:=⟨by kernel_rfl,by kernel_rfl⟩
 figure:=⟨by kernel_rfl,by kernel_rfl⟩
 melody:=⟨by kernel_rfl,by kernel_rfl⟩
 lines:=⟨by kernel_rfl,by kernel_rfl⟩
 phrase:=⟨by kernel_rfl,by kernel_rfl⟩
 term:=⟨by kernel_rfl,by kernel_rfl⟩
 box:=⟨by kernel_rfl,by kernel_rfl⟩
 arity:=⟨by kernel_rfl,by kernel_rfl⟩
 same:=aGa
 text:=aNc aLv
 lives:=fun H=>by
  have e:gZ "dactyl/dactyllaw25.lives" = 10:=by kernel_rfl
  rw[e];refine gU ?_;rfl
end Go.AM
end
