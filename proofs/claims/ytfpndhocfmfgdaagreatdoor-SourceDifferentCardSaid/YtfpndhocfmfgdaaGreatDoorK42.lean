/- Part 42: lemmas for the last text. -/
import Derived.Test.YtfpndhocfmfgdaaGreatDoorK40
import Derived.Test.YtfpndhocfmfgdaaGreatDoorK41
set_option linter.unusedVariables false
set_option linter.unusedSimpArgs false
section
set_option maxRecDepth 100000
namespace Go.AM
open Go
theorem aIA:RepFns AM0 gZ where
 build:=⟨by kernel_rfl,by kernel_rfl⟩
 buildOnce:=⟨by kernel_rfl,by kernel_rfl⟩
 slow:=⟨by kernel_rfl,by kernel_rfl⟩
 load:=by kernel_rfl
 once:=⟨by kernel_rfl,by kernel_rfl⟩
 repl:=⟨by kernel_rfl,by kernel_rfl⟩
theorem aNz:OutFns AM0 gZ 181 195 where
 ws:=⟨by kernel_rfl,by kernel_rfl⟩
 wb:=⟨by kernel_rfl,by kernel_rfl⟩
 len:=⟨by kernel_rfl,by kernel_rfl⟩
 cc:=by kernel_rfl
 itoa:=by kernel_rfl
 line:=⟨by kernel_rfl,by kernel_rfl⟩
 word:=⟨by kernel_rfl,by kernel_rfl⟩
 numbers:=⟨by kernel_rfl,by kernel_rfl⟩
 text:=⟨by kernel_rfl,by kernel_rfl⟩
theorem aLs:TextFns AM0 gZ 181 195 where
 toOutFns:=aNz
 newR:=⟨by kernel_rfl,by kernel_rfl⟩
 rep:=aIA
 bsr:=⟨by kernel_rfl,by kernel_rfl⟩
 num:=by kernel_rfl
 cnt:=by kernel_rfl
theorem aJC:BlockPrt AM0 gZ 181 195 where
 toTextFns:=aLs
 runs:=⟨by kernel_rfl,by kernel_rfl⟩
 hands:=⟨by kernel_rfl,by kernel_rfl⟩
 formula:=⟨by kernel_rfl,by kernel_rfl⟩
 block:=⟨by kernel_rfl,by kernel_rfl⟩
theorem aNA:SrcPrt AM0 gZ 181 where
 toBlockPrt:=aJC
 source:=⟨by kernel_rfl,by kernel_rfl⟩
 str:=by kernel_rfl
theorem aJD:HasValid AM0 gZ 181 where
 blk:=aJB
 src:=aNA
 valid:=⟨by kernel_rfl,by kernel_rfl⟩
 item:=⟨by kernel_rfl,by kernel_rfl⟩
 name:=⟨by kernel_rfl,by kernel_rfl⟩
 name1:=⟨by kernel_rfl,by kernel_rfl⟩
 name2:=⟨by kernel_rfl,by kernel_rfl⟩
 allX:=⟨⟨184,241,185,⟨by kernel_rfl,by kernel_rfl⟩,⟨by kernel_rfl,by kernel_rfl⟩,⟨by kernel_rfl,by kernel_rfl⟩,⟨by kernel_rfl,by kernel_rfl⟩⟩⟩
 allFc:=⟨⟨199,262,200,⟨by kernel_rfl,by kernel_rfl⟩,⟨by kernel_rfl,by kernel_rfl⟩,⟨by kernel_rfl,by kernel_rfl⟩,⟨by kernel_rfl,by kernel_rfl⟩⟩⟩
 allQ:=⟨⟨201,263,202,⟨by kernel_rfl,by kernel_rfl⟩,⟨by kernel_rfl,by kernel_rfl⟩,⟨by kernel_rfl,by kernel_rfl⟩,⟨by kernel_rfl,by kernel_rfl⟩⟩⟩
 allI:=⟨⟨129,181,130,⟨by kernel_rfl,by kernel_rfl⟩,⟨by kernel_rfl,by kernel_rfl⟩,⟨by kernel_rfl,by kernel_rfl⟩,⟨by kernel_rfl,by kernel_rfl⟩⟩⟩
theorem aLt:HasForm AM0 gZ where
 valid:=⟨by kernel_rfl,by kernel_rfl⟩
 size:=⟨by kernel_rfl,by kernel_rfl⟩
 depth:=⟨by kernel_rfl,by kernel_rfl⟩
 right:=⟨by kernel_rfl,by kernel_rfl⟩
 right1:=⟨by kernel_rfl,by kernel_rfl⟩
 con:=⟨208,⟨by kernel_rfl,by kernel_rfl⟩,⟨by kernel_rfl,by kernel_rfl⟩⟩
 put:=⟨by kernel_rfl,by kernel_rfl⟩
 text:=⟨by kernel_rfl,by kernel_rfl⟩
end Go.AM
end
