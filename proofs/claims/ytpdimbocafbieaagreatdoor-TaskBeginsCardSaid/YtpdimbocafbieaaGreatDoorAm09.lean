/- Part of the proof. -/
import Derived.Test.YtpdimbocafbieaaGreatDoorAm07
import Derived.Test.YtpdimbocafbieaaGreatDoorAm05
import Derived.Test.YtpdimbocafbieaaGreatDoorProg
import Derived.KernelRfl
set_option linter.unusedVariables false
set_option linter.unusedSimpArgs false
namespace Go.AM.K
theorem k187:ck 187 (.fn P.f_qdw)=true:=by kernel_rfl
theorem k188:ck 188 (.fn P.f_qfb)=true:=by kernel_rfl
theorem k189:ck 189 (.fn P.f_qdi)=true:=by kernel_rfl
theorem k190:ck 190 (.fn P.f_qea)=true:=by kernel_rfl
theorem k191:ck 191 (.fn P.f_qbo)=true:=by kernel_rfl
theorem k196:ck 196 (.fn P.f_qfg)=true:=by kernel_rfl
theorem k197:ck 197 (.fn P.f_qec)=true:=by kernel_rfl
theorem k206:ck 206 (.fn P.f_qgm)=true:=by kernel_rfl
theorem k207:ck 207 (.fn P.f_qbq)=true:=by kernel_rfl
theorem k216:ck 216 (.fn P.f_qaf)=true:=by kernel_rfl
theorem k217:ck 217 (.fn P.f_qv)=true:=by kernel_rfl
theorem k218:ck 218 (.fn P.f_qu)=true:=by kernel_rfl
theorem k219:ck 219 (.fn P.f_qan)=true:=by kernel_rfl
theorem k221:ck 221 (.fn P.f_qh)=true:=by kernel_rfl
theorem k222:ck 222 (.fn P.f_qn)=true:=by kernel_rfl
theorem k242:ck 242 (.fn P.f_qax)=true:=by kernel_rfl
theorem k243:ck 243 (.fn P.f_qay)=true:=by kernel_rfl
theorem k244:ck 244 (.fn P.f_qba)=true:=by kernel_rfl
theorem k245:ck 245 (.fn P.f_qaz)=true:=by kernel_rfl
theorem k246:ck 246 (.fn P.f_qbu)=true:=by kernel_rfl
theorem k247:ck 247 (.fn P.f_qby)=true:=by kernel_rfl
theorem k253:ck 253 (.fn P.f_qfd)=true:=by kernel_rfl
theorem k254:ck 254 (.fn P.f_qbl)=true:=by kernel_rfl
theorem k255:ck 255 (.fn P.f_qgl)=true:=by kernel_rfl
theorem k256:ck 256 (.fn P.f_qgn)=true:=by kernel_rfl
theorem k259:ck 259 (.fn P.f_qez)=true:=by kernel_rfl
theorem k260:ck 260 (.fn P.f_qej)=true:=by kernel_rfl
theorem k272:ck 272 (.fn P.f_qdv)=true:=by kernel_rfl
theorem k273:ck 273 (.fn P.f_qdp)=true:=by kernel_rfl
theorem k274:ck 274 (.fn P.f_qeb)=true:=by kernel_rfl
theorem k275:ck 275 (.fn P.f_qeu)=true:=by kernel_rfl
theorem k276:ck 276 (.fn P.f_qbr)=true:=by kernel_rfl
theorem k277:ck 277 (.fn P.f_qdx)=true:=by kernel_rfl
theorem k278:ck 278 (.fn P.f_qfl)=true:=by kernel_rfl
theorem k281:ck 281 (.fn P.f_qes)=true:=by kernel_rfl
theorem k299:ck 299 (.fn P.f_qw)=true:=by kernel_rfl
theorem k300:ck 300 (.fn P.f_qac)=true:=by kernel_rfl
theorem k301:ck 301 (.fn P.f_qaa)=true:=by kernel_rfl
theorem k302:ck 302 (.fn P.f_qt)=true:=by kernel_rfl
theorem k316:ck 316 (.fn P.f_qbc)=true:=by kernel_rfl
theorem k317:ck 317 (.fn P.f_qbd)=true:=by kernel_rfl
theorem k318:ck 318 (.fn P.f_qbf)=true:=by kernel_rfl
theorem k319:ck 319 (.fn P.f_qbe)=true:=by kernel_rfl
theorem k320:ck 320 (.fn P.f_qfj)=true:=by kernel_rfl
theorem k339:ck 339 (.fn P.f_qfe)=true:=by kernel_rfl
theorem k340:ck 340 (.fn P.f_qbs)=true:=by kernel_rfl
theorem k341:ck 341 (.fn P.f_qbw)=true:=by kernel_rfl
theorem k359:ck 359 (.fn P.f_qad)=true:=by kernel_rfl
theorem k360:ck 360 (.fn P.f_qab)=true:=by kernel_rfl
theorem k361:ck 361 (.fn P.f_qk)=true:=by kernel_rfl
end Go.AM.K
