/- Part of the proof. -/
import Derived.Test.YtmpmbfpkpannjaaGreatDoorAm28
import Derived.Test.YtmpmbfpkpannjaaGreatDoorAm29
import Derived.Test.YtmpmbfpkpannjaaGreatDoorAm30
set_option linter.unusedVariables false
set_option linter.unusedSimpArgs false
set_option linter.unusedSectionVars false
namespace Go.Proofs.YtmpmbfpkpannjaaGreatDoor.lowerAll
open Go.ChangeShapes Go.WideShapes Go.ChangeAt
theorem ka{a b:Bool}(ha:a=true)(hb:b=true):(a&&b)=true:=by rw[ha,hb];rfl
set_option maxRecDepth 100000 in
theorem closed:joinedFacts Tryz.prog 3 Tryz.f3 (OpenSpec.ofChange Rows.lowerAllSpec).bare Rows.lowerAllRow=true:=by
 unfold joinedFacts;refine ka ?_ j31;refine ka ?_ j30;refine ka ?_ j29;refine ka ?_ j28;refine ka ?_ j27;refine ka ?_ j26;refine ka ?_ j25;refine ka ?_ j24;refine ka ?_ j23;refine ka ?_ j22;refine ka ?_ j21;refine ka ?_ j20;refine ka ?_ j19;refine ka ?_ j18;refine ka ?_ j17;refine ka ?_ j16;refine ka ?_ j15;refine ka ?_ j14;refine ka ?_ j13;refine ka ?_ j12;refine ka ?_ j11;refine ka ?_ j10;refine ka ?_ j9;refine ka ?_ j8;refine ka ?_ j7;refine ka ?_ j6;refine ka ?_ j5;refine ka ?_ j4;refine ka ?_ j3;refine ka ?_ j2;refine ka ?_ j1;exact j0
end Go.Proofs.YtmpmbfpkpannjaaGreatDoor.lowerAll
