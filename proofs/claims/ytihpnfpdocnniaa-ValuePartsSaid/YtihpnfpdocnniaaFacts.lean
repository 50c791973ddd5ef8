/-
  Closed facts on the types and functions of this seat's program, by program (wip/tools/facts.py).
-/
import Derived.Test.YtihpnfpdocnniaaProg
import Derived.Test.YtihpnfpdocnniaaRng
import Derived.KernelRfl
set_option linter.unusedVariables false
namespace Go.Proofs.Ytihpnfpdocnniaa
open Go Go.MV
theorem mo : Try.prog.follows .mixedOrders = true := by kernel_rfl
theorem ta1 : tyAgg Try.prog 1 = some none := by kernel_rfl
theorem sz1 : szOf Try.prog 1 = some 1 := by kernel_rfl
theorem zm1 : zeroMV Try.prog 1 = some [.fn0] := by kernel_rfl
theorem el1 : elemOk Try.prog 1 1 8 = true := by kernel_rfl
theorem ta2 : tyAgg Try.prog 2 = some none := by kernel_rfl
theorem sz2 : szOf Try.prog 2 = some 1 := by kernel_rfl
theorem zm2 : zeroMV Try.prog 2 = some [.int .i64 0] := by kernel_rfl
theorem el2 : elemOk Try.prog 2 1 8 = true := by kernel_rfl
theorem ta3 : tyAgg Try.prog 3 = some none := by kernel_rfl
theorem sz3 : szOf Try.prog 3 = some 1 := by kernel_rfl
theorem zm3 : zeroMV Try.prog 3 = some [.int .i64 0] := by kernel_rfl
theorem el3 : elemOk Try.prog 3 1 8 = true := by kernel_rfl
theorem ta4 : tyAgg Try.prog 4 = some none := by kernel_rfl
theorem sz4 : szOf Try.prog 4 = some 1 := by kernel_rfl
theorem zm4 : zeroMV Try.prog 4 = some [.bool false] := by kernel_rfl
theorem el4 : elemOk Try.prog 4 1 1 = true := by kernel_rfl
theorem ta5 : tyAgg Try.prog 5 = some none := by kernel_rfl
theorem sz5 : szOf Try.prog 5 = some 1 := by kernel_rfl
theorem zm5 : zeroMV Try.prog 5 = some [.int .u8 0] := by kernel_rfl
theorem el5 : elemOk Try.prog 5 1 1 = true := by kernel_rfl
theorem ta6 : tyAgg Try.prog 6 = some none := by kernel_rfl
theorem sz6 : szOf Try.prog 6 = some 1 := by kernel_rfl
theorem zm6 : zeroMV Try.prog 6 = some [.int .u8 0] := by kernel_rfl
theorem el6 : elemOk Try.prog 6 1 1 = true := by kernel_rfl
theorem ta7 : tyAgg Try.prog 7 = some (some 4) := by kernel_rfl
theorem sz7 : szOf Try.prog 7 = some 4 := by kernel_rfl
theorem zm7 : zeroMV Try.prog 7 = some [.int .i64 0, .int .i64 0, .bool false, .int .u8 0] := by kernel_rfl
theorem el7 : elemOk Try.prog 7 4 24 = true := by kernel_rfl
theorem fo7_0 : fieldOff Try.prog 7 0 = some (0, 2) := by kernel_rfl
theorem fo7_1 : fieldOff Try.prog 7 1 = some (1, 3) := by kernel_rfl
theorem fo7_2 : fieldOff Try.prog 7 2 = some (2, 4) := by kernel_rfl
theorem fo7_3 : fieldOff Try.prog 7 3 = some (3, 6) := by kernel_rfl
theorem ta8 : tyAgg Try.prog 8 = some (some 4) := by kernel_rfl
theorem sz8 : szOf Try.prog 8 = some 4 := by kernel_rfl
theorem zm8 : zeroMV Try.prog 8 = some [.int .i64 0, .int .i64 0, .bool false, .int .u8 0] := by kernel_rfl
theorem el8 : elemOk Try.prog 8 4 24 = true := by kernel_rfl
theorem fo8_0 : fieldOff Try.prog 8 0 = some (0, 2) := by kernel_rfl
theorem fo8_1 : fieldOff Try.prog 8 1 = some (1, 3) := by kernel_rfl
theorem fo8_2 : fieldOff Try.prog 8 2 = some (2, 4) := by kernel_rfl
theorem fo8_3 : fieldOff Try.prog 8 3 = some (3, 6) := by kernel_rfl
theorem ta9 : tyAgg Try.prog 9 = some none := by kernel_rfl
theorem sz9 : szOf Try.prog 9 = some 1 := by kernel_rfl
theorem zm9 : zeroMV Try.prog 9 = some [.str (bs [])] := by kernel_rfl
theorem el9 : elemOk Try.prog 9 1 16 = true := by kernel_rfl
theorem ta10 : tyAgg Try.prog 10 = some none := by kernel_rfl
theorem sz10 : szOf Try.prog 10 = some 1 := by kernel_rfl
theorem zm10 : zeroMV Try.prog 10 = some [.str (bs [])] := by kernel_rfl
theorem el10 : elemOk Try.prog 10 1 16 = true := by kernel_rfl
theorem ta11 : tyAgg Try.prog 11 = some none := by kernel_rfl
theorem sz11 : szOf Try.prog 11 = some 1 := by kernel_rfl
theorem zm11 : zeroMV Try.prog 11 = some [.str (bs [])] := by kernel_rfl
theorem el11 : elemOk Try.prog 11 1 16 = true := by kernel_rfl
theorem ta12 : tyAgg Try.prog 12 = some none := by kernel_rfl
theorem sz12 : szOf Try.prog 12 = some 1 := by kernel_rfl
theorem zm12 : zeroMV Try.prog 12 = some [.int .u64 0] := by kernel_rfl
theorem el12 : elemOk Try.prog 12 1 8 = true := by kernel_rfl
theorem ta13 : tyAgg Try.prog 13 = some (some 2) := by kernel_rfl
theorem sz13 : szOf Try.prog 13 = some 2 := by kernel_rfl
theorem zm13 : zeroMV Try.prog 13 = some [.str (bs []), .int .u64 0] := by kernel_rfl
theorem el13 : elemOk Try.prog 13 2 24 = true := by kernel_rfl
theorem fo13_0 : fieldOff Try.prog 13 0 = some (0, 9) := by kernel_rfl
theorem fo13_1 : fieldOff Try.prog 13 1 = some (1, 12) := by kernel_rfl
theorem ta14 : tyAgg Try.prog 14 = some (some 2) := by kernel_rfl
theorem sz14 : szOf Try.prog 14 = some 2 := by kernel_rfl
theorem zm14 : zeroMV Try.prog 14 = some [.str (bs []), .int .u64 0] := by kernel_rfl
theorem el14 : elemOk Try.prog 14 2 24 = true := by kernel_rfl
theorem fo14_0 : fieldOff Try.prog 14 0 = some (0, 9) := by kernel_rfl
theorem fo14_1 : fieldOff Try.prog 14 1 = some (1, 12) := by kernel_rfl
theorem ta15 : tyAgg Try.prog 15 = some none := by kernel_rfl
theorem sz15 : szOf Try.prog 15 = some 1 := by kernel_rfl
theorem zm15 : zeroMV Try.prog 15 = some [.ptr0] := by kernel_rfl
theorem el15 : elemOk Try.prog 15 1 8 = true := by kernel_rfl
theorem ta16 : tyAgg Try.prog 16 = some none := by kernel_rfl
theorem sz16 : szOf Try.prog 16 = some 1 := by kernel_rfl
theorem zm16 : zeroMV Try.prog 16 = some [.ptr0] := by kernel_rfl
theorem el16 : elemOk Try.prog 16 1 8 = true := by kernel_rfl
theorem ta17 : tyAgg Try.prog 17 = some none := by kernel_rfl
theorem sz17 : szOf Try.prog 17 = some 1 := by kernel_rfl
theorem zm17 : zeroMV Try.prog 17 = some [.ptr0] := by kernel_rfl
theorem el17 : elemOk Try.prog 17 1 8 = true := by kernel_rfl
theorem ta18 : tyAgg Try.prog 18 = some (some 1) := by kernel_rfl
theorem sz18 : szOf Try.prog 18 = some 1 := by kernel_rfl
theorem zm18 : zeroMV Try.prog 18 = some [.ptr0] := by kernel_rfl
theorem el18 : elemOk Try.prog 18 1 8 = true := by kernel_rfl
theorem fo18_0 : fieldOff Try.prog 18 0 = some (0, 17) := by kernel_rfl
theorem ta19 : tyAgg Try.prog 19 = some (some 1) := by kernel_rfl
theorem sz19 : szOf Try.prog 19 = some 1 := by kernel_rfl
theorem zm19 : zeroMV Try.prog 19 = some [.ptr0] := by kernel_rfl
theorem el19 : elemOk Try.prog 19 1 8 = true := by kernel_rfl
theorem fo19_0 : fieldOff Try.prog 19 0 = some (0, 17) := by kernel_rfl
theorem ta20 : tyAgg Try.prog 20 = some none := by kernel_rfl
theorem sz20 : szOf Try.prog 20 = some 1 := by kernel_rfl
theorem zm20 : zeroMV Try.prog 20 = some [.iface0] := by kernel_rfl
theorem el20 : elemOk Try.prog 20 1 16 = true := by kernel_rfl
theorem ta21 : tyAgg Try.prog 21 = some none := by kernel_rfl
theorem sz21 : szOf Try.prog 21 = some 1 := by kernel_rfl
theorem zm21 : zeroMV Try.prog 21 = some [.int .i32 0] := by kernel_rfl
theorem el21 : elemOk Try.prog 21 1 4 = true := by kernel_rfl
theorem ta22 : tyAgg Try.prog 22 = some none := by kernel_rfl
theorem sz22 : szOf Try.prog 22 = some 1 := by kernel_rfl
theorem zm22 : zeroMV Try.prog 22 = some [.lst0] := by kernel_rfl
theorem el22 : elemOk Try.prog 22 1 24 = true := by kernel_rfl
theorem ta23 : tyAgg Try.prog 23 = some (some 2) := by kernel_rfl
theorem sz23 : szOf Try.prog 23 = some 2 := by kernel_rfl
theorem zm23 : zeroMV Try.prog 23 = some [.int .i64 0, .lst0] := by kernel_rfl
theorem el23 : elemOk Try.prog 23 2 32 = true := by kernel_rfl
theorem fo23_0 : fieldOff Try.prog 23 0 = some (0, 3) := by kernel_rfl
theorem fo23_1 : fieldOff Try.prog 23 1 = some (1, 22) := by kernel_rfl
theorem ta24 : tyAgg Try.prog 24 = some (some 2) := by kernel_rfl
theorem sz24 : szOf Try.prog 24 = some 2 := by kernel_rfl
theorem zm24 : zeroMV Try.prog 24 = some [.int .i64 0, .lst0] := by kernel_rfl
theorem el24 : elemOk Try.prog 24 2 32 = true := by kernel_rfl
theorem fo24_0 : fieldOff Try.prog 24 0 = some (0, 3) := by kernel_rfl
theorem fo24_1 : fieldOff Try.prog 24 1 = some (1, 22) := by kernel_rfl
theorem ta25 : tyAgg Try.prog 25 = some none := by kernel_rfl
theorem sz25 : szOf Try.prog 25 = some 1 := by kernel_rfl
theorem zm25 : zeroMV Try.prog 25 = some [.int .u64 0] := by kernel_rfl
theorem el25 : elemOk Try.prog 25 1 8 = true := by kernel_rfl
theorem ta26 : tyAgg Try.prog 26 = some none := by kernel_rfl
theorem sz26 : szOf Try.prog 26 = some 1 := by kernel_rfl
theorem zm26 : zeroMV Try.prog 26 = some [.lst0] := by kernel_rfl
theorem el26 : elemOk Try.prog 26 1 24 = true := by kernel_rfl
theorem ta27 : tyAgg Try.prog 27 = some none := by kernel_rfl
theorem sz27 : szOf Try.prog 27 = some 1 := by kernel_rfl
theorem zm27 : zeroMV Try.prog 27 = some [.lst0] := by kernel_rfl
theorem el27 : elemOk Try.prog 27 1 24 = true := by kernel_rfl
theorem ta28 : tyAgg Try.prog 28 = some none := by kernel_rfl
theorem sz28 : szOf Try.prog 28 = some 1 := by kernel_rfl
theorem zm28 : zeroMV Try.prog 28 = some [.lst0] := by kernel_rfl
theorem el28 : elemOk Try.prog 28 1 24 = true := by kernel_rfl
theorem ta29 : tyAgg Try.prog 29 = some (some 5) := by kernel_rfl
theorem sz29 : szOf Try.prog 29 = some 5 := by kernel_rfl
theorem zm29 : zeroMV Try.prog 29 = some [.int .u64 0, .int .u64 0, .lst0, .lst0, .lst0] := by kernel_rfl
theorem el29 : elemOk Try.prog 29 5 88 = true := by kernel_rfl
theorem fo29_0 : fieldOff Try.prog 29 0 = some (0, 25) := by kernel_rfl
theorem fo29_1 : fieldOff Try.prog 29 1 = some (1, 25) := by kernel_rfl
theorem fo29_2 : fieldOff Try.prog 29 2 = some (2, 26) := by kernel_rfl
theorem fo29_3 : fieldOff Try.prog 29 3 = some (3, 27) := by kernel_rfl
theorem fo29_4 : fieldOff Try.prog 29 4 = some (4, 28) := by kernel_rfl
theorem ta30 : tyAgg Try.prog 30 = some (some 5) := by kernel_rfl
theorem sz30 : szOf Try.prog 30 = some 5 := by kernel_rfl
theorem zm30 : zeroMV Try.prog 30 = some [.int .u64 0, .int .u64 0, .lst0, .lst0, .lst0] := by kernel_rfl
theorem el30 : elemOk Try.prog 30 5 88 = true := by kernel_rfl
theorem fo30_0 : fieldOff Try.prog 30 0 = some (0, 25) := by kernel_rfl
theorem fo30_1 : fieldOff Try.prog 30 1 = some (1, 25) := by kernel_rfl
theorem fo30_2 : fieldOff Try.prog 30 2 = some (2, 26) := by kernel_rfl
theorem fo30_3 : fieldOff Try.prog 30 3 = some (3, 27) := by kernel_rfl
theorem fo30_4 : fieldOff Try.prog 30 4 = some (4, 28) := by kernel_rfl
theorem ta31 : tyAgg Try.prog 31 = some none := by kernel_rfl
theorem sz31 : szOf Try.prog 31 = some 1 := by kernel_rfl
theorem zm31 : zeroMV Try.prog 31 = some [.fn0] := by kernel_rfl
theorem el31 : elemOk Try.prog 31 1 8 = true := by kernel_rfl
theorem ta32 : tyAgg Try.prog 32 = some none := by kernel_rfl
theorem sz32 : szOf Try.prog 32 = some 1 := by kernel_rfl
theorem zm32 : zeroMV Try.prog 32 = some [.fn0] := by kernel_rfl
theorem el32 : elemOk Try.prog 32 1 8 = true := by kernel_rfl
theorem ta33 : tyAgg Try.prog 33 = some none := by kernel_rfl
theorem sz33 : szOf Try.prog 33 = some 1 := by kernel_rfl
theorem zm33 : zeroMV Try.prog 33 = some [.fn0] := by kernel_rfl
theorem el33 : elemOk Try.prog 33 1 8 = true := by kernel_rfl
theorem ta34 : tyAgg Try.prog 34 = some none := by kernel_rfl
theorem sz34 : szOf Try.prog 34 = some 1 := by kernel_rfl
theorem zm34 : zeroMV Try.prog 34 = some [.fn0] := by kernel_rfl
theorem el34 : elemOk Try.prog 34 1 8 = true := by kernel_rfl
theorem ta35 : tyAgg Try.prog 35 = some none := by kernel_rfl
theorem sz35 : szOf Try.prog 35 = some 1 := by kernel_rfl
theorem zm35 : zeroMV Try.prog 35 = some [.fn0] := by kernel_rfl
theorem el35 : elemOk Try.prog 35 1 8 = true := by kernel_rfl
theorem ta36 : tyAgg Try.prog 36 = some none := by kernel_rfl
theorem sz36 : szOf Try.prog 36 = some 1 := by kernel_rfl
theorem zm36 : zeroMV Try.prog 36 = some [.fn0] := by kernel_rfl
theorem el36 : elemOk Try.prog 36 1 8 = true := by kernel_rfl
theorem ta37 : tyAgg Try.prog 37 = some none := by kernel_rfl
theorem sz37 : szOf Try.prog 37 = some 1 := by kernel_rfl
theorem zm37 : zeroMV Try.prog 37 = some [.fn0] := by kernel_rfl
theorem el37 : elemOk Try.prog 37 1 8 = true := by kernel_rfl
theorem ta38 : tyAgg Try.prog 38 = some (some 2) := by kernel_rfl
theorem sz38 : szOf Try.prog 38 = some 2 := by kernel_rfl
theorem zm38 : zeroMV Try.prog 38 = some [.int .i64 0, .int .u64 0] := by kernel_rfl
theorem el38 : elemOk Try.prog 38 2 16 = true := by kernel_rfl
theorem fo38_0 : fieldOff Try.prog 38 0 = some (0, 3) := by kernel_rfl
theorem fo38_1 : fieldOff Try.prog 38 1 = some (1, 25) := by kernel_rfl
theorem ta39 : tyAgg Try.prog 39 = some (some 2) := by kernel_rfl
theorem sz39 : szOf Try.prog 39 = some 2 := by kernel_rfl
theorem zm39 : zeroMV Try.prog 39 = some [.int .i64 0, .int .u64 0] := by kernel_rfl
theorem el39 : elemOk Try.prog 39 2 16 = true := by kernel_rfl
theorem fo39_0 : fieldOff Try.prog 39 0 = some (0, 3) := by kernel_rfl
theorem fo39_1 : fieldOff Try.prog 39 1 = some (1, 25) := by kernel_rfl
theorem ta40 : tyAgg Try.prog 40 = some none := by kernel_rfl
theorem sz40 : szOf Try.prog 40 = some 1 := by kernel_rfl
theorem zm40 : zeroMV Try.prog 40 = some [.lst0] := by kernel_rfl
theorem el40 : elemOk Try.prog 40 1 24 = true := by kernel_rfl
theorem ta41 : tyAgg Try.prog 41 = some none := by kernel_rfl
theorem sz41 : szOf Try.prog 41 = some 1 := by kernel_rfl
theorem zm41 : zeroMV Try.prog 41 = some [.fn0] := by kernel_rfl
theorem el41 : elemOk Try.prog 41 1 8 = true := by kernel_rfl
theorem ta42 : tyAgg Try.prog 42 = some none := by kernel_rfl
theorem sz42 : szOf Try.prog 42 = some 1 := by kernel_rfl
theorem zm42 : zeroMV Try.prog 42 = some [.fn0] := by kernel_rfl
theorem el42 : elemOk Try.prog 42 1 8 = true := by kernel_rfl
theorem ta43 : tyAgg Try.prog 43 = some none := by kernel_rfl
theorem sz43 : szOf Try.prog 43 = some 1 := by kernel_rfl
theorem zm43 : zeroMV Try.prog 43 = some [.fn0] := by kernel_rfl
theorem el43 : elemOk Try.prog 43 1 8 = true := by kernel_rfl
theorem ta44 : tyAgg Try.prog 44 = some none := by kernel_rfl
theorem sz44 : szOf Try.prog 44 = some 1 := by kernel_rfl
theorem zm44 : zeroMV Try.prog 44 = some [.lst0] := by kernel_rfl
theorem el44 : elemOk Try.prog 44 1 24 = true := by kernel_rfl
theorem ta45 : tyAgg Try.prog 45 = some none := by kernel_rfl
theorem sz45 : szOf Try.prog 45 = some 1 := by kernel_rfl
theorem zm45 : zeroMV Try.prog 45 = some [.fn0] := by kernel_rfl
theorem el45 : elemOk Try.prog 45 1 8 = true := by kernel_rfl
theorem ta46 : tyAgg Try.prog 46 = some none := by kernel_rfl
theorem sz46 : szOf Try.prog 46 = some 1 := by kernel_rfl
theorem zm46 : zeroMV Try.prog 46 = some [.fn0] := by kernel_rfl
theorem el46 : elemOk Try.prog 46 1 8 = true := by kernel_rfl
theorem ta47 : tyAgg Try.prog 47 = some none := by kernel_rfl
theorem sz47 : szOf Try.prog 47 = some 1 := by kernel_rfl
theorem zm47 : zeroMV Try.prog 47 = some [.fn0] := by kernel_rfl
theorem el47 : elemOk Try.prog 47 1 8 = true := by kernel_rfl
theorem ta48 : tyAgg Try.prog 48 = some none := by kernel_rfl
theorem sz48 : szOf Try.prog 48 = some 1 := by kernel_rfl
theorem zm48 : zeroMV Try.prog 48 = some [.fn0] := by kernel_rfl
theorem el48 : elemOk Try.prog 48 1 8 = true := by kernel_rfl
theorem ta49 : tyAgg Try.prog 49 = some none := by kernel_rfl
theorem sz49 : szOf Try.prog 49 = some 1 := by kernel_rfl
theorem zm49 : zeroMV Try.prog 49 = some [.fn0] := by kernel_rfl
theorem el49 : elemOk Try.prog 49 1 8 = true := by kernel_rfl
theorem ta50 : tyAgg Try.prog 50 = some none := by kernel_rfl
theorem sz50 : szOf Try.prog 50 = some 1 := by kernel_rfl
theorem zm50 : zeroMV Try.prog 50 = some [.fn0] := by kernel_rfl
theorem el50 : elemOk Try.prog 50 1 8 = true := by kernel_rfl
theorem ta51 : tyAgg Try.prog 51 = some none := by kernel_rfl
theorem sz51 : szOf Try.prog 51 = some 1 := by kernel_rfl
theorem zm51 : zeroMV Try.prog 51 = some [.fn0] := by kernel_rfl
theorem el51 : elemOk Try.prog 51 1 8 = true := by kernel_rfl
theorem ta52 : tyAgg Try.prog 52 = some none := by kernel_rfl
theorem sz52 : szOf Try.prog 52 = some 1 := by kernel_rfl
theorem zm52 : zeroMV Try.prog 52 = some [.fn0] := by kernel_rfl
theorem el52 : elemOk Try.prog 52 1 8 = true := by kernel_rfl
theorem ta53 : tyAgg Try.prog 53 = some none := by kernel_rfl
theorem sz53 : szOf Try.prog 53 = some 1 := by kernel_rfl
theorem zm53 : zeroMV Try.prog 53 = some [.fn0] := by kernel_rfl
theorem el53 : elemOk Try.prog 53 1 8 = true := by kernel_rfl
theorem ta54 : tyAgg Try.prog 54 = some none := by kernel_rfl
theorem sz54 : szOf Try.prog 54 = some 1 := by kernel_rfl
theorem zm54 : zeroMV Try.prog 54 = some [.fn0] := by kernel_rfl
theorem el54 : elemOk Try.prog 54 1 8 = true := by kernel_rfl
theorem ta55 : tyAgg Try.prog 55 = some none := by kernel_rfl
theorem sz55 : szOf Try.prog 55 = some 1 := by kernel_rfl
theorem zm55 : zeroMV Try.prog 55 = some [.fn0] := by kernel_rfl
theorem el55 : elemOk Try.prog 55 1 8 = true := by kernel_rfl
theorem ta56 : tyAgg Try.prog 56 = some none := by kernel_rfl
theorem sz56 : szOf Try.prog 56 = some 1 := by kernel_rfl
theorem zm56 : zeroMV Try.prog 56 = some [.fn0] := by kernel_rfl
theorem el56 : elemOk Try.prog 56 1 8 = true := by kernel_rfl
theorem ta57 : tyAgg Try.prog 57 = some none := by kernel_rfl
theorem sz57 : szOf Try.prog 57 = some 1 := by kernel_rfl
theorem zm57 : zeroMV Try.prog 57 = some [.fn0] := by kernel_rfl
theorem el57 : elemOk Try.prog 57 1 8 = true := by kernel_rfl
theorem ta58 : tyAgg Try.prog 58 = some none := by kernel_rfl
theorem sz58 : szOf Try.prog 58 = some 1 := by kernel_rfl
theorem zm58 : zeroMV Try.prog 58 = some [.fn0] := by kernel_rfl
theorem el58 : elemOk Try.prog 58 1 8 = true := by kernel_rfl
theorem ta59 : tyAgg Try.prog 59 = some none := by kernel_rfl
theorem sz59 : szOf Try.prog 59 = some 1 := by kernel_rfl
theorem zm59 : zeroMV Try.prog 59 = some [.fn0] := by kernel_rfl
theorem el59 : elemOk Try.prog 59 1 8 = true := by kernel_rfl
theorem ta60 : tyAgg Try.prog 60 = some none := by kernel_rfl
theorem sz60 : szOf Try.prog 60 = some 1 := by kernel_rfl
theorem zm60 : zeroMV Try.prog 60 = some [.fn0] := by kernel_rfl
theorem el60 : elemOk Try.prog 60 1 8 = true := by kernel_rfl
theorem ta61 : tyAgg Try.prog 61 = some none := by kernel_rfl
theorem sz61 : szOf Try.prog 61 = some 1 := by kernel_rfl
theorem zm61 : zeroMV Try.prog 61 = some [.fn0] := by kernel_rfl
theorem el61 : elemOk Try.prog 61 1 8 = true := by kernel_rfl
theorem ta62 : tyAgg Try.prog 62 = some none := by kernel_rfl
theorem sz62 : szOf Try.prog 62 = some 1 := by kernel_rfl
theorem zm62 : zeroMV Try.prog 62 = some [.fn0] := by kernel_rfl
theorem el62 : elemOk Try.prog 62 1 8 = true := by kernel_rfl
theorem ta63 : tyAgg Try.prog 63 = some none := by kernel_rfl
theorem sz63 : szOf Try.prog 63 = some 1 := by kernel_rfl
theorem zm63 : zeroMV Try.prog 63 = some [.fn0] := by kernel_rfl
theorem el63 : elemOk Try.prog 63 1 8 = true := by kernel_rfl
theorem ta64 : tyAgg Try.prog 64 = some none := by kernel_rfl
theorem sz64 : szOf Try.prog 64 = some 1 := by kernel_rfl
theorem zm64 : zeroMV Try.prog 64 = some [.fn0] := by kernel_rfl
theorem el64 : elemOk Try.prog 64 1 8 = true := by kernel_rfl
theorem ta65 : tyAgg Try.prog 65 = some none := by kernel_rfl
theorem sz65 : szOf Try.prog 65 = some 1 := by kernel_rfl
theorem zm65 : zeroMV Try.prog 65 = some [.fn0] := by kernel_rfl
theorem el65 : elemOk Try.prog 65 1 8 = true := by kernel_rfl
theorem ta66 : tyAgg Try.prog 66 = some none := by kernel_rfl
theorem sz66 : szOf Try.prog 66 = some 1 := by kernel_rfl
theorem zm66 : zeroMV Try.prog 66 = some [.fn0] := by kernel_rfl
theorem el66 : elemOk Try.prog 66 1 8 = true := by kernel_rfl
theorem ta67 : tyAgg Try.prog 67 = some none := by kernel_rfl
theorem sz67 : szOf Try.prog 67 = some 1 := by kernel_rfl
theorem zm67 : zeroMV Try.prog 67 = some [.fn0] := by kernel_rfl
theorem el67 : elemOk Try.prog 67 1 8 = true := by kernel_rfl
theorem ta68 : tyAgg Try.prog 68 = some none := by kernel_rfl
theorem sz68 : szOf Try.prog 68 = some 1 := by kernel_rfl
theorem zm68 : zeroMV Try.prog 68 = some [.fn0] := by kernel_rfl
theorem el68 : elemOk Try.prog 68 1 8 = true := by kernel_rfl
theorem ta69 : tyAgg Try.prog 69 = some none := by kernel_rfl
theorem sz69 : szOf Try.prog 69 = some 1 := by kernel_rfl
theorem zm69 : zeroMV Try.prog 69 = some [.fn0] := by kernel_rfl
theorem el69 : elemOk Try.prog 69 1 8 = true := by kernel_rfl
theorem ta70 : tyAgg Try.prog 70 = some none := by kernel_rfl
theorem sz70 : szOf Try.prog 70 = some 1 := by kernel_rfl
theorem zm70 : zeroMV Try.prog 70 = some [.fn0] := by kernel_rfl
theorem el70 : elemOk Try.prog 70 1 8 = true := by kernel_rfl
theorem ta71 : tyAgg Try.prog 71 = some none := by kernel_rfl
theorem sz71 : szOf Try.prog 71 = some 1 := by kernel_rfl
theorem zm71 : zeroMV Try.prog 71 = some [.fn0] := by kernel_rfl
theorem el71 : elemOk Try.prog 71 1 8 = true := by kernel_rfl
theorem ta72 : tyAgg Try.prog 72 = some none := by kernel_rfl
theorem sz72 : szOf Try.prog 72 = some 1 := by kernel_rfl
theorem zm72 : zeroMV Try.prog 72 = some [.lst0] := by kernel_rfl
theorem el72 : elemOk Try.prog 72 1 24 = true := by kernel_rfl
theorem ta73 : tyAgg Try.prog 73 = some none := by kernel_rfl
theorem sz73 : szOf Try.prog 73 = some 1 := by kernel_rfl
theorem zm73 : zeroMV Try.prog 73 = some [.fn0] := by kernel_rfl
theorem el73 : elemOk Try.prog 73 1 8 = true := by kernel_rfl
theorem ta74 : tyAgg Try.prog 74 = some none := by kernel_rfl
theorem sz74 : szOf Try.prog 74 = some 1 := by kernel_rfl
theorem zm74 : zeroMV Try.prog 74 = some [.fn0] := by kernel_rfl
theorem el74 : elemOk Try.prog 74 1 8 = true := by kernel_rfl
theorem ta75 : tyAgg Try.prog 75 = some none := by kernel_rfl
theorem sz75 : szOf Try.prog 75 = some 1 := by kernel_rfl
theorem zm75 : zeroMV Try.prog 75 = some [.fn0] := by kernel_rfl
theorem el75 : elemOk Try.prog 75 1 8 = true := by kernel_rfl
theorem ta76 : tyAgg Try.prog 76 = some none := by kernel_rfl
theorem sz76 : szOf Try.prog 76 = some 1 := by kernel_rfl
theorem zm76 : zeroMV Try.prog 76 = some [.fn0] := by kernel_rfl
theorem el76 : elemOk Try.prog 76 1 8 = true := by kernel_rfl
theorem ta77 : tyAgg Try.prog 77 = some none := by kernel_rfl
theorem sz77 : szOf Try.prog 77 = some 1 := by kernel_rfl
theorem zm77 : zeroMV Try.prog 77 = some [.fn0] := by kernel_rfl
theorem el77 : elemOk Try.prog 77 1 8 = true := by kernel_rfl
theorem ta78 : tyAgg Try.prog 78 = some none := by kernel_rfl
theorem sz78 : szOf Try.prog 78 = some 1 := by kernel_rfl
theorem zm78 : zeroMV Try.prog 78 = some [.fn0] := by kernel_rfl
theorem el78 : elemOk Try.prog 78 1 8 = true := by kernel_rfl
theorem ta79 : tyAgg Try.prog 79 = some none := by kernel_rfl
theorem sz79 : szOf Try.prog 79 = some 1 := by kernel_rfl
theorem zm79 : zeroMV Try.prog 79 = some [.fn0] := by kernel_rfl
theorem el79 : elemOk Try.prog 79 1 8 = true := by kernel_rfl
theorem ta80 : tyAgg Try.prog 80 = some none := by kernel_rfl
theorem sz80 : szOf Try.prog 80 = some 1 := by kernel_rfl
theorem zm80 : zeroMV Try.prog 80 = some [.fn0] := by kernel_rfl
theorem el80 : elemOk Try.prog 80 1 8 = true := by kernel_rfl
theorem ta81 : tyAgg Try.prog 81 = some none := by kernel_rfl
theorem sz81 : szOf Try.prog 81 = some 1 := by kernel_rfl
theorem zm81 : zeroMV Try.prog 81 = some [.fn0] := by kernel_rfl
theorem el81 : elemOk Try.prog 81 1 8 = true := by kernel_rfl
theorem ta82 : tyAgg Try.prog 82 = some none := by kernel_rfl
theorem sz82 : szOf Try.prog 82 = some 1 := by kernel_rfl
theorem zm82 : zeroMV Try.prog 82 = some [.lst0] := by kernel_rfl
theorem el82 : elemOk Try.prog 82 1 24 = true := by kernel_rfl
theorem ta83 : tyAgg Try.prog 83 = some none := by kernel_rfl
theorem sz83 : szOf Try.prog 83 = some 1 := by kernel_rfl
theorem zm83 : zeroMV Try.prog 83 = some [.fn0] := by kernel_rfl
theorem el83 : elemOk Try.prog 83 1 8 = true := by kernel_rfl
theorem ta84 : tyAgg Try.prog 84 = some none := by kernel_rfl
theorem sz84 : szOf Try.prog 84 = some 1 := by kernel_rfl
theorem zm84 : zeroMV Try.prog 84 = some [.fn0] := by kernel_rfl
theorem el84 : elemOk Try.prog 84 1 8 = true := by kernel_rfl
theorem ta85 : tyAgg Try.prog 85 = some none := by kernel_rfl
theorem sz85 : szOf Try.prog 85 = some 1 := by kernel_rfl
theorem zm85 : zeroMV Try.prog 85 = some [.fn0] := by kernel_rfl
theorem el85 : elemOk Try.prog 85 1 8 = true := by kernel_rfl
theorem ta86 : tyAgg Try.prog 86 = some none := by kernel_rfl
theorem sz86 : szOf Try.prog 86 = some 1 := by kernel_rfl
theorem zm86 : zeroMV Try.prog 86 = some [.fn0] := by kernel_rfl
theorem el86 : elemOk Try.prog 86 1 8 = true := by kernel_rfl
theorem ta87 : tyAgg Try.prog 87 = some none := by kernel_rfl
theorem sz87 : szOf Try.prog 87 = some 1 := by kernel_rfl
theorem zm87 : zeroMV Try.prog 87 = some [.fn0] := by kernel_rfl
theorem el87 : elemOk Try.prog 87 1 8 = true := by kernel_rfl
theorem ta88 : tyAgg Try.prog 88 = some none := by kernel_rfl
theorem sz88 : szOf Try.prog 88 = some 1 := by kernel_rfl
theorem zm88 : zeroMV Try.prog 88 = some [.fn0] := by kernel_rfl
theorem el88 : elemOk Try.prog 88 1 8 = true := by kernel_rfl
theorem ta89 : tyAgg Try.prog 89 = some (some 4) := by kernel_rfl
theorem sz89 : szOf Try.prog 89 = some 4 := by kernel_rfl
theorem zm89 : zeroMV Try.prog 89 = some [.ptr0, .ptr0, .ptr0, .str (bs [])] := by kernel_rfl
theorem el89 : elemOk Try.prog 89 4 40 = true := by kernel_rfl
theorem fo89_0 : fieldOff Try.prog 89 0 = some (0, 17) := by kernel_rfl
theorem fo89_1 : fieldOff Try.prog 89 1 = some (1, 17) := by kernel_rfl
theorem fo89_2 : fieldOff Try.prog 89 2 = some (2, 17) := by kernel_rfl
theorem fo89_3 : fieldOff Try.prog 89 3 = some (3, 9) := by kernel_rfl
theorem ta90 : tyAgg Try.prog 90 = some (some 4) := by kernel_rfl
theorem sz90 : szOf Try.prog 90 = some 4 := by kernel_rfl
theorem zm90 : zeroMV Try.prog 90 = some [.ptr0, .ptr0, .ptr0, .str (bs [])] := by kernel_rfl
theorem el90 : elemOk Try.prog 90 4 40 = true := by kernel_rfl
theorem fo90_0 : fieldOff Try.prog 90 0 = some (0, 17) := by kernel_rfl
theorem fo90_1 : fieldOff Try.prog 90 1 = some (1, 17) := by kernel_rfl
theorem fo90_2 : fieldOff Try.prog 90 2 = some (2, 17) := by kernel_rfl
theorem fo90_3 : fieldOff Try.prog 90 3 = some (3, 9) := by kernel_rfl
theorem ta91 : tyAgg Try.prog 91 = some (some 0) := by kernel_rfl
theorem sz91 : szOf Try.prog 91 = some 0 := by kernel_rfl
theorem ta92 : tyAgg Try.prog 92 = some (some 0) := by kernel_rfl
theorem sz92 : szOf Try.prog 92 = some 0 := by kernel_rfl
theorem ta93 : tyAgg Try.prog 93 = some (some 0) := by kernel_rfl
theorem sz93 : szOf Try.prog 93 = some 0 := by kernel_rfl
theorem ta94 : tyAgg Try.prog 94 = some none := by kernel_rfl
theorem sz94 : szOf Try.prog 94 = some 1 := by kernel_rfl
theorem zm94 : zeroMV Try.prog 94 = some [.fn0] := by kernel_rfl
theorem el94 : elemOk Try.prog 94 1 8 = true := by kernel_rfl
theorem ta95 : tyAgg Try.prog 95 = some none := by kernel_rfl
theorem sz95 : szOf Try.prog 95 = some 1 := by kernel_rfl
theorem zm95 : zeroMV Try.prog 95 = some [.int .u32 0] := by kernel_rfl
theorem el95 : elemOk Try.prog 95 1 4 = true := by kernel_rfl
theorem ta96 : tyAgg Try.prog 96 = some none := by kernel_rfl
theorem sz96 : szOf Try.prog 96 = some 1 := by kernel_rfl
theorem zm96 : zeroMV Try.prog 96 = some [.int .u8 0] := by kernel_rfl
theorem el96 : elemOk Try.prog 96 1 1 = true := by kernel_rfl
theorem ta97 : tyAgg Try.prog 97 = some none := by kernel_rfl
theorem sz97 : szOf Try.prog 97 = some 1 := by kernel_rfl
theorem zm97 : zeroMV Try.prog 97 = some [.int .u8 0] := by kernel_rfl
theorem el97 : elemOk Try.prog 97 1 1 = true := by kernel_rfl
theorem ta98 : tyAgg Try.prog 98 = some none := by kernel_rfl
theorem sz98 : szOf Try.prog 98 = some 1 := by kernel_rfl
theorem zm98 : zeroMV Try.prog 98 = some [.fn0] := by kernel_rfl
theorem el98 : elemOk Try.prog 98 1 8 = true := by kernel_rfl
theorem ta99 : tyAgg Try.prog 99 = some none := by kernel_rfl
theorem sz99 : szOf Try.prog 99 = some 1 := by kernel_rfl
theorem zm99 : zeroMV Try.prog 99 = some [.ptr0] := by kernel_rfl
theorem el99 : elemOk Try.prog 99 1 8 = true := by kernel_rfl
theorem ta100 : tyAgg Try.prog 100 = some none := by kernel_rfl
theorem sz100 : szOf Try.prog 100 = some 1 := by kernel_rfl
theorem zm100 : zeroMV Try.prog 100 = some [.int .i32 0] := by kernel_rfl
theorem el100 : elemOk Try.prog 100 1 4 = true := by kernel_rfl
theorem ta101 : tyAgg Try.prog 101 = some none := by kernel_rfl
theorem sz101 : szOf Try.prog 101 = some 1 := by kernel_rfl
theorem zm101 : zeroMV Try.prog 101 = some [.int .i32 0] := by kernel_rfl
theorem el101 : elemOk Try.prog 101 1 4 = true := by kernel_rfl
theorem ta102 : tyAgg Try.prog 102 = some (some 11) := by kernel_rfl
theorem sz102 : szOf Try.prog 102 = some 11 := by kernel_rfl
theorem zm102 : zeroMV Try.prog 102 = some [.int .u64 0, .int .u64 0, .int .u32 0, .int .u8 0, .int .u8 0, .int .u8 0, .int .u8 0, .fn0, .ptr0, .int .i32 0, .int .i32 0] := by kernel_rfl
theorem el102 : elemOk Try.prog 102 11 48 = true := by kernel_rfl
theorem fo102_0 : fieldOff Try.prog 102 0 = some (0, 12) := by kernel_rfl
theorem fo102_1 : fieldOff Try.prog 102 1 = some (1, 12) := by kernel_rfl
theorem fo102_2 : fieldOff Try.prog 102 2 = some (2, 95) := by kernel_rfl
theorem fo102_3 : fieldOff Try.prog 102 3 = some (3, 96) := by kernel_rfl
theorem fo102_4 : fieldOff Try.prog 102 4 = some (4, 5) := by kernel_rfl
theorem fo102_5 : fieldOff Try.prog 102 5 = some (5, 5) := by kernel_rfl
theorem fo102_6 : fieldOff Try.prog 102 6 = some (6, 97) := by kernel_rfl
theorem fo102_7 : fieldOff Try.prog 102 7 = some (7, 98) := by kernel_rfl
theorem fo102_8 : fieldOff Try.prog 102 8 = some (8, 99) := by kernel_rfl
theorem fo102_9 : fieldOff Try.prog 102 9 = some (9, 100) := by kernel_rfl
theorem fo102_10 : fieldOff Try.prog 102 10 = some (10, 101) := by kernel_rfl
theorem ta103 : tyAgg Try.prog 103 = some (some 11) := by kernel_rfl
theorem sz103 : szOf Try.prog 103 = some 11 := by kernel_rfl
theorem zm103 : zeroMV Try.prog 103 = some [.int .u64 0, .int .u64 0, .int .u32 0, .int .u8 0, .int .u8 0, .int .u8 0, .int .u8 0, .fn0, .ptr0, .int .i32 0, .int .i32 0] := by kernel_rfl
theorem el103 : elemOk Try.prog 103 11 48 = true := by kernel_rfl
theorem fo103_0 : fieldOff Try.prog 103 0 = some (0, 12) := by kernel_rfl
theorem fo103_1 : fieldOff Try.prog 103 1 = some (1, 12) := by kernel_rfl
theorem fo103_2 : fieldOff Try.prog 103 2 = some (2, 95) := by kernel_rfl
theorem fo103_3 : fieldOff Try.prog 103 3 = some (3, 96) := by kernel_rfl
theorem fo103_4 : fieldOff Try.prog 103 4 = some (4, 5) := by kernel_rfl
theorem fo103_5 : fieldOff Try.prog 103 5 = some (5, 5) := by kernel_rfl
theorem fo103_6 : fieldOff Try.prog 103 6 = some (6, 97) := by kernel_rfl
theorem fo103_7 : fieldOff Try.prog 103 7 = some (7, 98) := by kernel_rfl
theorem fo103_8 : fieldOff Try.prog 103 8 = some (8, 99) := by kernel_rfl
theorem fo103_9 : fieldOff Try.prog 103 9 = some (9, 100) := by kernel_rfl
theorem fo103_10 : fieldOff Try.prog 103 10 = some (10, 101) := by kernel_rfl
theorem ta104 : tyAgg Try.prog 104 = some none := by kernel_rfl
theorem sz104 : szOf Try.prog 104 = some 1 := by kernel_rfl
theorem zm104 : zeroMV Try.prog 104 = some [.fn0] := by kernel_rfl
theorem el104 : elemOk Try.prog 104 1 8 = true := by kernel_rfl
theorem ta105 : tyAgg Try.prog 105 = some none := by kernel_rfl
theorem sz105 : szOf Try.prog 105 = some 1 := by kernel_rfl
theorem zm105 : zeroMV Try.prog 105 = some [.ptr0] := by kernel_rfl
theorem el105 : elemOk Try.prog 105 1 8 = true := by kernel_rfl
theorem co3 : CallOk Try.prog 3 := ⟨_, _, Try.func3, by kernel_rfl, rfl⟩
theorem co4 : CallOk Try.prog 4 := ⟨_, _, Try.func4, by kernel_rfl, rfl⟩
theorem co5 : CallOk Try.prog 5 := ⟨_, _, Try.func5, by kernel_rfl, rfl⟩
theorem co6 : CallOk Try.prog 6 := ⟨_, _, Try.func6, by kernel_rfl, rfl⟩
theorem co7 : CallOk Try.prog 7 := ⟨_, _, Try.func7, by kernel_rfl, rfl⟩
theorem co8 : CallOk Try.prog 8 := ⟨_, _, Try.func8, by kernel_rfl, rfl⟩
theorem co9 : CallOk Try.prog 9 := ⟨_, _, Try.func9, by kernel_rfl, rfl⟩
theorem co10 : CallOk Try.prog 10 := ⟨_, _, Try.func10, by kernel_rfl, rfl⟩
theorem co11 : CallOk Try.prog 11 := ⟨_, _, Try.func11, by kernel_rfl, rfl⟩
theorem co12 : CallOk Try.prog 12 := ⟨_, _, Try.func12, by kernel_rfl, rfl⟩
theorem co13 : CallOk Try.prog 13 := ⟨_, _, Try.func13, by kernel_rfl, rfl⟩
theorem co14 : CallOk Try.prog 14 := ⟨_, _, Try.func14, by kernel_rfl, rfl⟩
theorem co15 : CallOk Try.prog 15 := ⟨_, _, Try.func15, by kernel_rfl, rfl⟩
theorem co16 : CallOk Try.prog 16 := ⟨_, _, Try.func16, by kernel_rfl, rfl⟩
theorem co17 : CallOk Try.prog 17 := ⟨_, _, Try.func17, by kernel_rfl, rfl⟩
theorem co18 : CallOk Try.prog 18 := ⟨_, _, Try.func18, by kernel_rfl, rfl⟩
theorem co19 : CallOk Try.prog 19 := ⟨_, _, Try.func19, by kernel_rfl, rfl⟩
theorem co20 : CallOk Try.prog 20 := ⟨_, _, Try.func20, by kernel_rfl, rfl⟩
theorem co21 : CallOk Try.prog 21 := ⟨_, _, Try.func21, by kernel_rfl, rfl⟩
theorem co22 : CallOk Try.prog 22 := ⟨_, _, Try.func22, by kernel_rfl, rfl⟩
theorem co23 : CallOk Try.prog 23 := ⟨_, _, Try.func23, by kernel_rfl, rfl⟩
theorem co24 : CallOk Try.prog 24 := ⟨_, _, Try.func24, by kernel_rfl, rfl⟩
theorem co25 : CallOk Try.prog 25 := ⟨_, _, Try.func25, by kernel_rfl, rfl⟩
theorem co26 : CallOk Try.prog 26 := ⟨_, _, Try.func26, by kernel_rfl, rfl⟩
theorem co27 : CallOk Try.prog 27 := ⟨_, _, Try.func27, by kernel_rfl, rfl⟩
theorem co28 : CallOk Try.prog 28 := ⟨_, _, Try.func28, by kernel_rfl, rfl⟩
theorem co29 : CallOk Try.prog 29 := ⟨_, _, Try.func29, by kernel_rfl, rfl⟩
theorem co30 : CallOk Try.prog 30 := ⟨_, _, Try.func30, by kernel_rfl, rfl⟩
theorem co31 : CallOk Try.prog 31 := ⟨_, _, Try.func31, by kernel_rfl, rfl⟩
theorem co32 : CallOk Try.prog 32 := ⟨_, _, Try.func32, by kernel_rfl, rfl⟩
theorem co33 : CallOk Try.prog 33 := ⟨_, _, Try.func33, by kernel_rfl, rfl⟩
theorem co34 : CallOk Try.prog 34 := ⟨_, _, Try.func34, by kernel_rfl, rfl⟩
theorem co35 : CallOk Try.prog 35 := ⟨_, _, Try.func35, by kernel_rfl, rfl⟩
theorem co36 : CallOk Try.prog 36 := ⟨_, _, Try.func36, by kernel_rfl, rfl⟩
theorem co37 : CallOk Try.prog 37 := ⟨_, _, Try.func37, by kernel_rfl, rfl⟩
theorem co38 : CallOk Try.prog 38 := ⟨_, _, Try.func38, by kernel_rfl, rfl⟩
theorem co39 : CallOk Try.prog 39 := ⟨_, _, Try.func39, by kernel_rfl, rfl⟩
theorem co40 : CallOk Try.prog 40 := ⟨_, _, Try.func40, by kernel_rfl, rfl⟩
theorem co41 : CallOk Try.prog 41 := ⟨_, _, Try.func41, by kernel_rfl, rfl⟩
theorem co42 : CallOk Try.prog 42 := ⟨_, _, Try.func42, by kernel_rfl, rfl⟩
theorem co43 : CallOk Try.prog 43 := ⟨_, _, Try.func43, by kernel_rfl, rfl⟩
theorem co44 : CallOk Try.prog 44 := ⟨_, _, Try.func44, by kernel_rfl, rfl⟩
theorem co45 : CallOk Try.prog 45 := ⟨_, _, Try.func45, by kernel_rfl, rfl⟩
theorem co46 : CallOk Try.prog 46 := ⟨_, _, Try.func46, by kernel_rfl, rfl⟩
theorem co47 : CallOk Try.prog 47 := ⟨_, _, Try.func47, by kernel_rfl, rfl⟩
theorem co48 : CallOk Try.prog 48 := ⟨_, _, Try.func48, by kernel_rfl, rfl⟩
theorem co49 : CallOk Try.prog 49 := ⟨_, _, Try.func49, by kernel_rfl, rfl⟩
theorem co50 : CallOk Try.prog 50 := ⟨_, _, Try.func50, by kernel_rfl, rfl⟩
theorem co51 : CallOk Try.prog 51 := ⟨_, _, Try.func51, by kernel_rfl, rfl⟩
theorem co52 : CallOk Try.prog 52 := ⟨_, _, Try.func52, by kernel_rfl, rfl⟩
theorem co53 : CallOk Try.prog 53 := ⟨_, _, Try.func53, by kernel_rfl, rfl⟩
theorem co54 : CallOk Try.prog 54 := ⟨_, _, Try.func54, by kernel_rfl, rfl⟩
theorem co55 : CallOk Try.prog 55 := ⟨_, _, Try.func55, by kernel_rfl, rfl⟩
theorem co56 : CallOk Try.prog 56 := ⟨_, _, Try.func56, by kernel_rfl, rfl⟩
theorem co57 : CallOk Try.prog 57 := ⟨_, _, Try.func57, by kernel_rfl, rfl⟩
theorem co58 : CallOk Try.prog 58 := ⟨_, _, Try.func58, by kernel_rfl, rfl⟩
theorem co59 : CallOk Try.prog 59 := ⟨_, _, Try.func59, by kernel_rfl, rfl⟩
theorem co60 : CallOk Try.prog 60 := ⟨_, _, Try.func60, by kernel_rfl, rfl⟩
theorem co61 : CallOk Try.prog 61 := ⟨_, _, Try.func61, by kernel_rfl, rfl⟩
theorem co62 : CallOk Try.prog 62 := ⟨_, _, Try.func62, by kernel_rfl, rfl⟩
theorem co63 : CallOk Try.prog 63 := ⟨_, _, Try.func63, by kernel_rfl, rfl⟩
theorem co64 : CallOk Try.prog 64 := ⟨_, _, Try.func64, by kernel_rfl, rfl⟩
theorem co65 : CallOk Try.prog 65 := ⟨_, _, Try.func65, by kernel_rfl, rfl⟩
theorem co66 : CallOk Try.prog 66 := ⟨_, _, Try.func66, by kernel_rfl, rfl⟩
theorem co67 : CallOk Try.prog 67 := ⟨_, _, Try.func67, by kernel_rfl, rfl⟩
theorem co68 : CallOk Try.prog 68 := ⟨_, _, Try.func68, by kernel_rfl, rfl⟩
theorem co69 : CallOk Try.prog 69 := ⟨_, _, Try.func69, by kernel_rfl, rfl⟩
theorem co70 : CallOk Try.prog 70 := ⟨_, _, Try.func70, by kernel_rfl, rfl⟩
theorem co71 : CallOk Try.prog 71 := ⟨_, _, Try.func71, by kernel_rfl, rfl⟩
theorem co72 : CallOk Try.prog 72 := ⟨_, _, Try.func72, by kernel_rfl, rfl⟩
theorem co73 : CallOk Try.prog 73 := ⟨_, _, Try.func73, by kernel_rfl, rfl⟩
theorem co74 : CallOk Try.prog 74 := ⟨_, _, Try.func74, by kernel_rfl, rfl⟩
theorem co75 : CallOk Try.prog 75 := ⟨_, _, Try.func75, by kernel_rfl, rfl⟩
theorem co76 : CallOk Try.prog 76 := ⟨_, _, Try.func76, by kernel_rfl, rfl⟩
theorem co77 : CallOk Try.prog 77 := ⟨_, _, Try.func77, by kernel_rfl, rfl⟩
theorem co78 : CallOk Try.prog 78 := ⟨_, _, Try.func78, by kernel_rfl, rfl⟩
theorem co79 : CallOk Try.prog 79 := ⟨_, _, Try.func79, by kernel_rfl, rfl⟩
theorem co80 : CallOk Try.prog 80 := ⟨_, _, Try.func80, by kernel_rfl, rfl⟩
theorem co81 : CallOk Try.prog 81 := ⟨_, _, Try.func81, by kernel_rfl, rfl⟩
theorem co82 : CallOk Try.prog 82 := ⟨_, _, Try.func82, by kernel_rfl, rfl⟩
end Go.Proofs.Ytihpnfpdocnniaa
