/- Part of the proof. -/
import Derived.Test.YtdfklhejofpgbaaGreatDoorAm26
import Derived.Test.YtdfklhejofpgbaaGreatDoorAm27
import Derived.Test.YtdfklhejofpgbaaGreatDoorAm28
set_option linter.unusedVariables false
set_option linter.unusedSimpArgs false
namespace Go.Proofs.YtdfklhejofpgbaaGreatDoor.execTrees
open Go.ChangeShapes Go.WideShapes Go.ChangeAt
theorem iP{a b:Bool}(ha:a=true)(hb:b=true):(a&&b)=true:=by rw[ha,hb];rfl
set_option maxRecDepth 100000 in
theorem closed:joinedFacts Tryz.prog 3 Tryz.f3 (OpenSpec.ofChange Rows.execTreesSpec).bare Rows.execTreesRow=true:=by
 unfold joinedFacts;refine iP ?_ j31;refine iP ?_ j30;refine iP ?_ j29;refine iP ?_ j28;refine iP ?_ j27;refine iP ?_ j26;refine iP ?_ j25;refine iP ?_ j24;refine iP ?_ j23;refine iP ?_ j22;refine iP ?_ j21;refine iP ?_ j20;refine iP ?_ j19;refine iP ?_ j18;refine iP ?_ j17;refine iP ?_ j16;refine iP ?_ j15;refine iP ?_ j14;refine iP ?_ j13;refine iP ?_ j12;refine iP ?_ j11;refine iP ?_ j10;refine iP ?_ j9;refine iP ?_ j8;refine iP ?_ j7;refine iP ?_ j6;refine iP ?_ j5;refine iP ?_ j4;refine iP ?_ j3;refine iP ?_ j2;refine iP ?_ j1;exact j0
end Go.Proofs.YtdfklhejofpgbaaGreatDoor.execTrees
