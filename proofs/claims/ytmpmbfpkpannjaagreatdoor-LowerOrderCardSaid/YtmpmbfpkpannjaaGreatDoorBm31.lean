/- Part of the proof. -/
import Derived.Test.YtmpmbfpkpannjaaGreatDoorBm28
import Derived.Test.YtmpmbfpkpannjaaGreatDoorBm29
import Derived.Test.YtmpmbfpkpannjaaGreatDoorBm30
set_option linter.unusedVariables false
set_option linter.unusedSimpArgs false
set_option linter.unusedSectionVars false
namespace Go.Proofs.YtmpmbfpkpannjaaGreatDoor.lowerOrder
open Go.ChangeShapes Go.WideShapes Go.ChangeAt
theorem jW{a b:Bool}(ha:a=true)(hb:b=true):(a&&b)=true:=by rw[ha,hb];rfl
set_option maxRecDepth 100000 in
theorem closed:joinedFacts Tryz.prog 4 Tryz.f4 (OpenSpec.ofChange Rows.lowerOrderSpec).bare Rows.lowerOrderRow=true:=by
 unfold joinedFacts;refine jW ?_ j31;refine jW ?_ j30;refine jW ?_ j29;refine jW ?_ j28;refine jW ?_ j27;refine jW ?_ j26;refine jW ?_ j25;refine jW ?_ j24;refine jW ?_ j23;refine jW ?_ j22;refine jW ?_ j21;refine jW ?_ j20;refine jW ?_ j19;refine jW ?_ j18;refine jW ?_ j17;refine jW ?_ j16;refine jW ?_ j15;refine jW ?_ j14;refine jW ?_ j13;refine jW ?_ j12;refine jW ?_ j11;refine jW ?_ j10;refine jW ?_ j9;refine jW ?_ j8;refine jW ?_ j7;refine jW ?_ j6;refine jW ?_ j5;refine jW ?_ j4;refine jW ?_ j3;refine jW ?_ j2;refine jW ?_ j1;exact j0
end Go.Proofs.YtmpmbfpkpannjaaGreatDoor.lowerOrder
