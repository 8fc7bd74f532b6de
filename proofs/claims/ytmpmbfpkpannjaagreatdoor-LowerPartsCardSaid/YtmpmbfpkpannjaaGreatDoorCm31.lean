/- Part of the proof. -/
import Derived.Test.YtmpmbfpkpannjaaGreatDoorCm28
import Derived.Test.YtmpmbfpkpannjaaGreatDoorCm29
import Derived.Test.YtmpmbfpkpannjaaGreatDoorCm30
set_option linter.unusedVariables false
set_option linter.unusedSimpArgs false
set_option linter.unusedSectionVars false
namespace Go.Proofs.YtmpmbfpkpannjaaGreatDoor.lowerParts
open Go.ChangeShapes Go.WideShapes Go.ChangeAt
theorem jT{a b:Bool}(ha:a=true)(hb:b=true):(a&&b)=true:=by rw[ha,hb];rfl
set_option maxRecDepth 100000 in
theorem closed:joinedFacts Tryz.prog 5 Tryz.f5 (OpenSpec.ofChange Rows.lowerPartsSpec).bare Rows.lowerPartsRow=true:=by
 unfold joinedFacts;refine jT ?_ j31;refine jT ?_ j30;refine jT ?_ j29;refine jT ?_ j28;refine jT ?_ j27;refine jT ?_ j26;refine jT ?_ j25;refine jT ?_ j24;refine jT ?_ j23;refine jT ?_ j22;refine jT ?_ j21;refine jT ?_ j20;refine jT ?_ j19;refine jT ?_ j18;refine jT ?_ j17;refine jT ?_ j16;refine jT ?_ j15;refine jT ?_ j14;refine jT ?_ j13;refine jT ?_ j12;refine jT ?_ j11;refine jT ?_ j10;refine jT ?_ j9;refine jT ?_ j8;refine jT ?_ j7;refine jT ?_ j6;refine jT ?_ j5;refine jT ?_ j4;refine jT ?_ j3;refine jT ?_ j2;refine jT ?_ j1;exact j0
end Go.Proofs.YtmpmbfpkpannjaaGreatDoor.lowerParts
