/- Part of the proof. -/
import Derived.Test.YtchifcbclnonbaaGreatDoorAm26
import Derived.Test.YtchifcbclnonbaaGreatDoorAm27
import Derived.Test.YtchifcbclnonbaaGreatDoorAm28
set_option linter.unusedVariables false
set_option linter.unusedSimpArgs false
set_option linter.unusedSectionVars false
namespace Go.Proofs.YtchifcbclnonbaaGreatDoor.lowerDoes
open Go.ChangeShapes Go.WideShapes Go.ChangeAt
theorem ia{a b:Bool}(ha:a=true)(hb:b=true):(a&&b)=true:=by rw[ha,hb];rfl
set_option maxRecDepth 100000 in
theorem closed:joinedFacts Tryz.prog 3 Tryz.f3 (OpenSpec.ofChange Rows.lowerDoesSpec).bare Rows.lowerDoesRow=true:=by
 unfold joinedFacts;refine ia ?_ j31;refine ia ?_ j30;refine ia ?_ j29;refine ia ?_ j28;refine ia ?_ j27;refine ia ?_ j26;refine ia ?_ j25;refine ia ?_ j24;refine ia ?_ j23;refine ia ?_ j22;refine ia ?_ j21;refine ia ?_ j20;refine ia ?_ j19;refine ia ?_ j18;refine ia ?_ j17;refine ia ?_ j16;refine ia ?_ j15;refine ia ?_ j14;refine ia ?_ j13;refine ia ?_ j12;refine ia ?_ j11;refine ia ?_ j10;refine ia ?_ j9;refine ia ?_ j8;refine ia ?_ j7;refine ia ?_ j6;refine ia ?_ j5;refine ia ?_ j4;refine ia ?_ j3;refine ia ?_ j2;refine ia ?_ j1;exact j0
end Go.Proofs.YtchifcbclnonbaaGreatDoor.lowerDoes
