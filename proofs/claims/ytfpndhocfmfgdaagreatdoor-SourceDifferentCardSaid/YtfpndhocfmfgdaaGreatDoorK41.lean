/- Part 41: lemmas for the last text. -/
import Derived.Test.YtfpndhocfmfgdaaGreatDoorK40
set_option linter.unusedVariables false
set_option linter.unusedSimpArgs false
section
set_option maxRecDepth 100000
namespace Go.AM
open Go
theorem aGa:HasSame AM0 gZ where
 same:=⟨by kernel_rfl,by kernel_rfl⟩
 same1:=⟨by kernel_rfl,by kernel_rfl⟩
 block:=⟨by kernel_rfl,by kernel_rfl⟩
 block1:=⟨by kernel_rfl,by kernel_rfl⟩
 block2:=⟨by kernel_rfl,by kernel_rfl⟩
 question:=⟨by kernel_rfl,by kernel_rfl⟩
 expr:=⟨by kernel_rfl,by kernel_rfl⟩
 eItem:=⟨by kernel_rfl,by kernel_rfl⟩
 eBlock:=⟨by kernel_rfl,by kernel_rfl⟩
 eQuestion:=⟨by kernel_rfl,by kernel_rfl⟩
 eShape:=⟨by kernel_rfl,by kernel_rfl⟩
 eExpr:=⟨by kernel_rfl,by kernel_rfl⟩
 eBars:=⟨by kernel_rfl,by kernel_rfl⟩
 eHands:=⟨by kernel_rfl,by kernel_rfl⟩
 eRows:=⟨by kernel_rfl,by kernel_rfl⟩
 fact:=⟨by kernel_rfl,by kernel_rfl⟩
 point:=⟨by kernel_rfl,by kernel_rfl⟩
 note:=⟨by kernel_rfl,by kernel_rfl⟩
 run:=⟨by kernel_rfl,by kernel_rfl⟩
 int:=⟨by kernel_rfl,by kernel_rfl⟩
 str:=⟨by kernel_rfl,by kernel_rfl⟩
theorem aNy:HasMel AM0 gZ where
 mel:=⟨by kernel_rfl,by kernel_rfl⟩
 mel1:=⟨by kernel_rfl,by kernel_rfl⟩
 mel2:=⟨by kernel_rfl,by kernel_rfl⟩
 note:=⟨by kernel_rfl,by kernel_rfl⟩
 allH:=⟨⟨290,309,291,⟨by kernel_rfl,by kernel_rfl⟩,⟨by kernel_rfl,by kernel_rfl⟩,⟨by kernel_rfl,by kernel_rfl⟩,⟨by kernel_rfl,by kernel_rfl⟩⟩⟩
 allB:=⟨⟨292,310,293,⟨by kernel_rfl,by kernel_rfl⟩,⟨by kernel_rfl,by kernel_rfl⟩,⟨by kernel_rfl,by kernel_rfl⟩,⟨by kernel_rfl,by kernel_rfl⟩⟩⟩
 allN:=⟨⟨294,311,295,⟨by kernel_rfl,by kernel_rfl⟩,⟨by kernel_rfl,by kernel_rfl⟩,⟨by kernel_rfl,by kernel_rfl⟩,⟨by kernel_rfl,by kernel_rfl⟩⟩⟩
theorem aJB:HasBlock AM0 gZ where
 block:=⟨by kernel_rfl,by kernel_rfl⟩
 block1:=⟨by kernel_rfl,by kernel_rfl⟩
 block2:=⟨by kernel_rfl,by kernel_rfl⟩
 only:=⟨by kernel_rfl,by kernel_rfl⟩
 runs:=⟨by kernel_rfl,by kernel_rfl⟩
 runs1:=⟨by kernel_rfl,by kernel_rfl⟩
 expr:=⟨by kernel_rfl,by kernel_rfl⟩
 kids:=⟨by kernel_rfl,by kernel_rfl⟩
 upTo:=⟨by kernel_rfl,by kernel_rfl⟩
 upTo1:=⟨by kernel_rfl,by kernel_rfl⟩
 shape:=⟨by kernel_rfl,by kernel_rfl⟩
 shape1:=⟨by kernel_rfl,by kernel_rfl⟩
 within:=⟨by kernel_rfl,by kernel_rfl⟩
 text:=⟨by kernel_rfl,by kernel_rfl⟩
 text1:=⟨by kernel_rfl,by kernel_rfl⟩
 con:=⟨by kernel_rfl,by kernel_rfl⟩
 ind:=⟨by kernel_rfl,by kernel_rfl⟩
 mel:=aNy
 same:=aGa
 allB:=⟨⟨168,233,180,⟨by kernel_rfl,by kernel_rfl⟩,⟨by kernel_rfl,by kernel_rfl⟩,⟨by kernel_rfl,by kernel_rfl⟩,⟨by kernel_rfl,by kernel_rfl⟩⟩⟩
 allR:=⟨⟨285,308,286,⟨by kernel_rfl,by kernel_rfl⟩,⟨by kernel_rfl,by kernel_rfl⟩,⟨by kernel_rfl,by kernel_rfl⟩,⟨by kernel_rfl,by kernel_rfl⟩⟩⟩
 allI:=⟨⟨246,287,247,⟨by kernel_rfl,by kernel_rfl⟩,⟨by kernel_rfl,by kernel_rfl⟩,⟨by kernel_rfl,by kernel_rfl⟩,⟨by kernel_rfl,by kernel_rfl⟩⟩⟩
 allL:=⟨⟨248,288,249,⟨by kernel_rfl,by kernel_rfl⟩,⟨by kernel_rfl,by kernel_rfl⟩,⟨by kernel_rfl,by kernel_rfl⟩,⟨by kernel_rfl,by kernel_rfl⟩⟩⟩
 allS:=⟨⟨250,80,251,⟨by kernel_rfl,by kernel_rfl⟩,⟨by kernel_rfl,by kernel_rfl⟩,⟨by kernel_rfl,by kernel_rfl⟩,⟨by kernel_rfl,by kernel_rfl⟩⟩⟩
 allF:=⟨⟨95,147,253,⟨by kernel_rfl,by kernel_rfl⟩,⟨by kernel_rfl,by kernel_rfl⟩,⟨by kernel_rfl,by kernel_rfl⟩,⟨by kernel_rfl,by kernel_rfl⟩⟩⟩
 allP:=⟨⟨101,149,289,⟨by kernel_rfl,by kernel_rfl⟩,⟨by kernel_rfl,by kernel_rfl⟩,⟨by kernel_rfl,by kernel_rfl⟩,⟨by kernel_rfl,by kernel_rfl⟩⟩⟩
end Go.AM
end
