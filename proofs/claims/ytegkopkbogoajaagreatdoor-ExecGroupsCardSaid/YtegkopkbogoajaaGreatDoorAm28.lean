/- Part of the proof. -/
import Derived.Test.YtegkopkbogoajaaGreatDoorAm25
import Derived.Test.YtegkopkbogoajaaGreatDoorAm26
import Derived.Test.YtegkopkbogoajaaGreatDoorAm27
set_option linter.unusedVariables false
set_option linter.unusedSimpArgs false
namespace Go.Proofs.YtegkopkbogoajaaGreatDoor.execGroups
open Go.ChangeShapes Go.WideShapes Go.ChangeAt
theorem fS{a b:Bool}(ha:a=true)(hb:b=true):(a&&b)=true:=by rw[ha,hb];rfl
set_option maxRecDepth 100000 in
theorem closed:joinedFacts Tryz.prog 3 Tryz.f3 (OpenSpec.ofChange Rows.execGroupsSpec).bare Rows.execGroupsRow=true:=by
 unfold joinedFacts;refine fS ?_ uv;refine fS ?_ sS;refine fS ?_ rE;refine fS ?_ pT;refine fS ?_ sm;refine fS ?_ ux;refine fS ?_ rQ;refine fS ?_ rb;refine fS ?_ oe;refine fS ?_ pQ;refine fS ?_ sk;refine fS ?_ rT;refine fS ?_ po;refine fS ?_ pR;refine fS ?_ uX;refine fS ?_ pN;refine fS ?_ nN;refine fS ?_ sN;refine fS ?_ uQ;refine fS ?_ tV;refine fS ?_ qR;refine fS ?_ sI;refine fS ?_ j9;refine fS ?_ j8;refine fS ?_ j7;refine fS ?_ j6;refine fS ?_ j5;refine fS ?_ j4;refine fS ?_ j3;refine fS ?_ j2;refine fS ?_ j1;exact j0
end Go.Proofs.YtegkopkbogoajaaGreatDoor.execGroups
