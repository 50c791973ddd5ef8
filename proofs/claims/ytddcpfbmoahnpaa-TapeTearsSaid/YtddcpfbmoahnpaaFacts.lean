/-
  Closed facts on the types and functions of this seat's program, by program (wip/tools/facts.py).
-/
import Derived.Test.YtddcpfbmoahnpaaProg
import Derived.Test.YtddcpfbmoahnpaaRng
import Derived.KernelRfl
set_option linter.unusedVariables false
namespace Go.Proofs.Ytddcpfbmoahnpaa
open Go Go.MV
theorem mo : Try.prog.follows .mixedOrders = true := by kernel_rfl
theorem ta2 : tyAgg Try.prog 2 = some none := by kernel_rfl
theorem sz2 : szOf Try.prog 2 = some 1 := by kernel_rfl
theorem zm2 : zeroMV Try.prog 2 = some [.int .i64 0] := by kernel_rfl
theorem el2 : elemOk Try.prog 2 1 8 = true := by kernel_rfl
theorem ta3 : tyAgg Try.prog 3 = some none := by kernel_rfl
theorem sz3 : szOf Try.prog 3 = some 1 := by kernel_rfl
theorem zm3 : zeroMV Try.prog 3 = some [.int .i64 0] := by kernel_rfl
theorem el3 : elemOk Try.prog 3 1 8 = true := by kernel_rfl
theorem ta4 : tyAgg Try.prog 4 = some none := by kernel_rfl
theorem sz4 : szOf Try.prog 4 = some 1 := by kernel_rfl
theorem zm4 : zeroMV Try.prog 4 = some [.bool false] := by kernel_rfl
theorem el4 : elemOk Try.prog 4 1 1 = true := by kernel_rfl
theorem ta5 : tyAgg Try.prog 5 = some none := by kernel_rfl
theorem sz5 : szOf Try.prog 5 = some 1 := by kernel_rfl
theorem zm5 : zeroMV Try.prog 5 = some [.int .u8 0] := by kernel_rfl
theorem el5 : elemOk Try.prog 5 1 1 = true := by kernel_rfl
theorem ta6 : tyAgg Try.prog 6 = some none := by kernel_rfl
theorem sz6 : szOf Try.prog 6 = some 1 := by kernel_rfl
theorem zm6 : zeroMV Try.prog 6 = some [.int .u8 0] := by kernel_rfl
theorem el6 : elemOk Try.prog 6 1 1 = true := by kernel_rfl
theorem ta7 : tyAgg Try.prog 7 = some (some 4) := by kernel_rfl
theorem sz7 : szOf Try.prog 7 = some 4 := by kernel_rfl
theorem zm7 : zeroMV Try.prog 7 = some [.int .i64 0, .int .i64 0, .bool false, .int .u8 0] := by kernel_rfl
theorem el7 : elemOk Try.prog 7 4 24 = true := by kernel_rfl
theorem fo7_0 : fieldOff Try.prog 7 0 = some (0, 2) := by kernel_rfl
theorem fo7_1 : fieldOff Try.prog 7 1 = some (1, 3) := by kernel_rfl
theorem fo7_2 : fieldOff Try.prog 7 2 = some (2, 4) := by kernel_rfl
theorem fo7_3 : fieldOff Try.prog 7 3 = some (3, 6) := by kernel_rfl
theorem ta8 : tyAgg Try.prog 8 = some (some 4) := by kernel_rfl
theorem sz8 : szOf Try.prog 8 = some 4 := by kernel_rfl
theorem zm8 : zeroMV Try.prog 8 = some [.int .i64 0, .int .i64 0, .bool false, .int .u8 0] := by kernel_rfl
theorem el8 : elemOk Try.prog 8 4 24 = true := by kernel_rfl
theorem fo8_0 : fieldOff Try.prog 8 0 = some (0, 2) := by kernel_rfl
theorem fo8_1 : fieldOff Try.prog 8 1 = some (1, 3) := by kernel_rfl
theorem fo8_2 : fieldOff Try.prog 8 2 = some (2, 4) := by kernel_rfl
theorem fo8_3 : fieldOff Try.prog 8 3 = some (3, 6) := by kernel_rfl
theorem ta9 : tyAgg Try.prog 9 = some none := by kernel_rfl
theorem sz9 : szOf Try.prog 9 = some 1 := by kernel_rfl
theorem zm9 : zeroMV Try.prog 9 = some [.str (bs [])] := by kernel_rfl
theorem el9 : elemOk Try.prog 9 1 16 = true := by kernel_rfl
theorem ta10 : tyAgg Try.prog 10 = some none := by kernel_rfl
theorem sz10 : szOf Try.prog 10 = some 1 := by kernel_rfl
theorem zm10 : zeroMV Try.prog 10 = some [.str (bs [])] := by kernel_rfl
theorem el10 : elemOk Try.prog 10 1 16 = true := by kernel_rfl
theorem ta11 : tyAgg Try.prog 11 = some none := by kernel_rfl
theorem sz11 : szOf Try.prog 11 = some 1 := by kernel_rfl
theorem zm11 : zeroMV Try.prog 11 = some [.str (bs [])] := by kernel_rfl
theorem el11 : elemOk Try.prog 11 1 16 = true := by kernel_rfl
theorem ta12 : tyAgg Try.prog 12 = some none := by kernel_rfl
theorem sz12 : szOf Try.prog 12 = some 1 := by kernel_rfl
theorem zm12 : zeroMV Try.prog 12 = some [.int .u64 0] := by kernel_rfl
theorem el12 : elemOk Try.prog 12 1 8 = true := by kernel_rfl
theorem ta13 : tyAgg Try.prog 13 = some (some 2) := by kernel_rfl
theorem sz13 : szOf Try.prog 13 = some 2 := by kernel_rfl
theorem zm13 : zeroMV Try.prog 13 = some [.str (bs []), .int .u64 0] := by kernel_rfl
theorem el13 : elemOk Try.prog 13 2 24 = true := by kernel_rfl
theorem fo13_0 : fieldOff Try.prog 13 0 = some (0, 9) := by kernel_rfl
theorem fo13_1 : fieldOff Try.prog 13 1 = some (1, 12) := by kernel_rfl
theorem ta14 : tyAgg Try.prog 14 = some (some 2) := by kernel_rfl
theorem sz14 : szOf Try.prog 14 = some 2 := by kernel_rfl
theorem zm14 : zeroMV Try.prog 14 = some [.str (bs []), .int .u64 0] := by kernel_rfl
theorem el14 : elemOk Try.prog 14 2 24 = true := by kernel_rfl
theorem fo14_0 : fieldOff Try.prog 14 0 = some (0, 9) := by kernel_rfl
theorem fo14_1 : fieldOff Try.prog 14 1 = some (1, 12) := by kernel_rfl
theorem ta15 : tyAgg Try.prog 15 = some none := by kernel_rfl
theorem sz15 : szOf Try.prog 15 = some 1 := by kernel_rfl
theorem zm15 : zeroMV Try.prog 15 = some [.ptr0] := by kernel_rfl
theorem el15 : elemOk Try.prog 15 1 8 = true := by kernel_rfl
theorem ta16 : tyAgg Try.prog 16 = some none := by kernel_rfl
theorem sz16 : szOf Try.prog 16 = some 1 := by kernel_rfl
theorem zm16 : zeroMV Try.prog 16 = some [.ptr0] := by kernel_rfl
theorem el16 : elemOk Try.prog 16 1 8 = true := by kernel_rfl
theorem ta17 : tyAgg Try.prog 17 = some none := by kernel_rfl
theorem sz17 : szOf Try.prog 17 = some 1 := by kernel_rfl
theorem zm17 : zeroMV Try.prog 17 = some [.ptr0] := by kernel_rfl
theorem el17 : elemOk Try.prog 17 1 8 = true := by kernel_rfl
theorem ta18 : tyAgg Try.prog 18 = some (some 1) := by kernel_rfl
theorem sz18 : szOf Try.prog 18 = some 1 := by kernel_rfl
theorem zm18 : zeroMV Try.prog 18 = some [.ptr0] := by kernel_rfl
theorem el18 : elemOk Try.prog 18 1 8 = true := by kernel_rfl
theorem fo18_0 : fieldOff Try.prog 18 0 = some (0, 17) := by kernel_rfl
theorem ta19 : tyAgg Try.prog 19 = some (some 1) := by kernel_rfl
theorem sz19 : szOf Try.prog 19 = some 1 := by kernel_rfl
theorem zm19 : zeroMV Try.prog 19 = some [.ptr0] := by kernel_rfl
theorem el19 : elemOk Try.prog 19 1 8 = true := by kernel_rfl
theorem fo19_0 : fieldOff Try.prog 19 0 = some (0, 17) := by kernel_rfl
theorem ta20 : tyAgg Try.prog 20 = some none := by kernel_rfl
theorem sz20 : szOf Try.prog 20 = some 1 := by kernel_rfl
theorem zm20 : zeroMV Try.prog 20 = some [.iface0] := by kernel_rfl
theorem el20 : elemOk Try.prog 20 1 16 = true := by kernel_rfl
theorem ta21 : tyAgg Try.prog 21 = some none := by kernel_rfl
theorem sz21 : szOf Try.prog 21 = some 1 := by kernel_rfl
theorem zm21 : zeroMV Try.prog 21 = some [.int .i32 0] := by kernel_rfl
theorem el21 : elemOk Try.prog 21 1 4 = true := by kernel_rfl
theorem ta22 : tyAgg Try.prog 22 = some none := by kernel_rfl
theorem sz22 : szOf Try.prog 22 = some 1 := by kernel_rfl
theorem zm22 : zeroMV Try.prog 22 = some [.lst0] := by kernel_rfl
theorem el22 : elemOk Try.prog 22 1 24 = true := by kernel_rfl
theorem ta25 : tyAgg Try.prog 25 = some none := by kernel_rfl
theorem sz25 : szOf Try.prog 25 = some 1 := by kernel_rfl
theorem zm25 : zeroMV Try.prog 25 = some [.ptr0] := by kernel_rfl
theorem el25 : elemOk Try.prog 25 1 8 = true := by kernel_rfl
theorem ta33 : tyAgg Try.prog 33 = some none := by kernel_rfl
theorem sz33 : szOf Try.prog 33 = some 1 := by kernel_rfl
theorem zm33 : zeroMV Try.prog 33 = some [.iface0] := by kernel_rfl
theorem el33 : elemOk Try.prog 33 1 16 = true := by kernel_rfl
theorem ta34 : tyAgg Try.prog 34 = some none := by kernel_rfl
theorem sz34 : szOf Try.prog 34 = some 1 := by kernel_rfl
theorem zm34 : zeroMV Try.prog 34 = some [.iface0] := by kernel_rfl
theorem el34 : elemOk Try.prog 34 1 16 = true := by kernel_rfl
theorem ta37 : tyAgg Try.prog 37 = some none := by kernel_rfl
theorem sz37 : szOf Try.prog 37 = some 1 := by kernel_rfl
theorem zm37 : zeroMV Try.prog 37 = some [.lst0] := by kernel_rfl
theorem el37 : elemOk Try.prog 37 1 24 = true := by kernel_rfl
theorem ta38 : tyAgg Try.prog 38 = some none := by kernel_rfl
theorem sz38 : szOf Try.prog 38 = some 1 := by kernel_rfl
theorem zm38 : zeroMV Try.prog 38 = some [.ptr0] := by kernel_rfl
theorem el38 : elemOk Try.prog 38 1 8 = true := by kernel_rfl
theorem ta45 : tyAgg Try.prog 45 = some none := by kernel_rfl
theorem sz45 : szOf Try.prog 45 = some 1 := by kernel_rfl
theorem zm45 : zeroMV Try.prog 45 = some [.int .i64 0] := by kernel_rfl
theorem el45 : elemOk Try.prog 45 1 8 = true := by kernel_rfl
theorem ta46 : tyAgg Try.prog 46 = some (some 2) := by kernel_rfl
theorem sz46 : szOf Try.prog 46 = some 2 := by kernel_rfl
theorem zm46 : zeroMV Try.prog 46 = some [.str (bs []), .int .i64 0] := by kernel_rfl
theorem el46 : elemOk Try.prog 46 2 24 = true := by kernel_rfl
theorem fo46_0 : fieldOff Try.prog 46 0 = some (0, 9) := by kernel_rfl
theorem fo46_1 : fieldOff Try.prog 46 1 = some (1, 3) := by kernel_rfl
theorem ta47 : tyAgg Try.prog 47 = some (some 2) := by kernel_rfl
theorem sz47 : szOf Try.prog 47 = some 2 := by kernel_rfl
theorem zm47 : zeroMV Try.prog 47 = some [.str (bs []), .int .i64 0] := by kernel_rfl
theorem el47 : elemOk Try.prog 47 2 24 = true := by kernel_rfl
theorem fo47_0 : fieldOff Try.prog 47 0 = some (0, 9) := by kernel_rfl
theorem fo47_1 : fieldOff Try.prog 47 1 = some (1, 3) := by kernel_rfl
theorem ta52 : tyAgg Try.prog 52 = some none := by kernel_rfl
theorem sz52 : szOf Try.prog 52 = some 1 := by kernel_rfl
theorem ta53 : tyAgg Try.prog 53 = some (some 1) := by kernel_rfl
theorem sz53 : szOf Try.prog 53 = some 1 := by kernel_rfl
theorem fo53_0 : fieldOff Try.prog 53 0 = some (0, 52) := by kernel_rfl
theorem ta54 : tyAgg Try.prog 54 = some (some 1) := by kernel_rfl
theorem sz54 : szOf Try.prog 54 = some 1 := by kernel_rfl
theorem fo54_0 : fieldOff Try.prog 54 0 = some (0, 52) := by kernel_rfl
theorem ta55 : tyAgg Try.prog 55 = some (some 2) := by kernel_rfl
theorem sz55 : szOf Try.prog 55 = some 2 := by kernel_rfl
theorem fo55_0 : fieldOff Try.prog 55 0 = some (0, 54) := by kernel_rfl
theorem fo55_1 : fieldOff Try.prog 55 1 = some (1, 22) := by kernel_rfl
theorem ta56 : tyAgg Try.prog 56 = some (some 2) := by kernel_rfl
theorem sz56 : szOf Try.prog 56 = some 2 := by kernel_rfl
theorem fo56_0 : fieldOff Try.prog 56 0 = some (0, 54) := by kernel_rfl
theorem fo56_1 : fieldOff Try.prog 56 1 = some (1, 22) := by kernel_rfl
theorem ta65 : tyAgg Try.prog 65 = some none := by kernel_rfl
theorem sz65 : szOf Try.prog 65 = some 1 := by kernel_rfl
theorem zm65 : zeroMV Try.prog 65 = some [.iface0] := by kernel_rfl
theorem el65 : elemOk Try.prog 65 1 16 = true := by kernel_rfl
theorem ta66 : tyAgg Try.prog 66 = some none := by kernel_rfl
theorem sz66 : szOf Try.prog 66 = some 1 := by kernel_rfl
theorem zm66 : zeroMV Try.prog 66 = some [.iface0] := by kernel_rfl
theorem el66 : elemOk Try.prog 66 1 16 = true := by kernel_rfl
theorem ta72 : tyAgg Try.prog 72 = some none := by kernel_rfl
theorem sz72 : szOf Try.prog 72 = some 1 := by kernel_rfl
theorem zm72 : zeroMV Try.prog 72 = some [.int .u64 0] := by kernel_rfl
theorem el72 : elemOk Try.prog 72 1 8 = true := by kernel_rfl
theorem ta74 : tyAgg Try.prog 74 = some none := by kernel_rfl
theorem sz74 : szOf Try.prog 74 = some 1 := by kernel_rfl
theorem zm74 : zeroMV Try.prog 74 = some [.int .u64 0] := by kernel_rfl
theorem el74 : elemOk Try.prog 74 1 8 = true := by kernel_rfl
theorem ta75 : tyAgg Try.prog 75 = some none := by kernel_rfl
theorem sz75 : szOf Try.prog 75 = some 1 := by kernel_rfl
theorem zm75 : zeroMV Try.prog 75 = some [.ptr0] := by kernel_rfl
theorem el75 : elemOk Try.prog 75 1 8 = true := by kernel_rfl
theorem ta78 : tyAgg Try.prog 78 = some none := by kernel_rfl
theorem sz78 : szOf Try.prog 78 = some 1 := by kernel_rfl
theorem zm78 : zeroMV Try.prog 78 = some [.lst0] := by kernel_rfl
theorem el78 : elemOk Try.prog 78 1 24 = true := by kernel_rfl
theorem ta81 : tyAgg Try.prog 81 = some (some 1) := by kernel_rfl
theorem sz81 : szOf Try.prog 81 = some 1 := by kernel_rfl
theorem zm81 : zeroMV Try.prog 81 = some [.ptr0] := by kernel_rfl
theorem el81 : elemOk Try.prog 81 1 8 = true := by kernel_rfl
theorem fo81_0 : fieldOff Try.prog 81 0 = some (0, 17) := by kernel_rfl
theorem ta82 : tyAgg Try.prog 82 = some (some 1) := by kernel_rfl
theorem sz82 : szOf Try.prog 82 = some 1 := by kernel_rfl
theorem zm82 : zeroMV Try.prog 82 = some [.ptr0] := by kernel_rfl
theorem el82 : elemOk Try.prog 82 1 8 = true := by kernel_rfl
theorem fo82_0 : fieldOff Try.prog 82 0 = some (0, 17) := by kernel_rfl
theorem ta83 : tyAgg Try.prog 83 = some none := by kernel_rfl
theorem sz83 : szOf Try.prog 83 = some 1 := by kernel_rfl
theorem zm83 : zeroMV Try.prog 83 = some [.ptr0] := by kernel_rfl
theorem el83 : elemOk Try.prog 83 1 8 = true := by kernel_rfl
theorem ta84 : tyAgg Try.prog 84 = some none := by kernel_rfl
theorem sz84 : szOf Try.prog 84 = some 1 := by kernel_rfl
theorem zm84 : zeroMV Try.prog 84 = some [.iface0] := by kernel_rfl
theorem el84 : elemOk Try.prog 84 1 16 = true := by kernel_rfl
theorem ta87 : tyAgg Try.prog 87 = some none := by kernel_rfl
theorem sz87 : szOf Try.prog 87 = some 1 := by kernel_rfl
theorem zm87 : zeroMV Try.prog 87 = some [.iface0] := by kernel_rfl
theorem el87 : elemOk Try.prog 87 1 16 = true := by kernel_rfl
theorem ta89 : tyAgg Try.prog 89 = some none := by kernel_rfl
theorem sz89 : szOf Try.prog 89 = some 1 := by kernel_rfl
theorem zm89 : zeroMV Try.prog 89 = some [.iface0] := by kernel_rfl
theorem el89 : elemOk Try.prog 89 1 16 = true := by kernel_rfl
theorem ta90 : tyAgg Try.prog 90 = some none := by kernel_rfl
theorem sz90 : szOf Try.prog 90 = some 1 := by kernel_rfl
theorem zm90 : zeroMV Try.prog 90 = some [.lst0] := by kernel_rfl
theorem el90 : elemOk Try.prog 90 1 24 = true := by kernel_rfl
theorem ta95 : tyAgg Try.prog 95 = some (some 4) := by kernel_rfl
theorem sz95 : szOf Try.prog 95 = some 4 := by kernel_rfl
theorem zm95 : zeroMV Try.prog 95 = some [.ptr0, .ptr0, .ptr0, .str (bs [])] := by kernel_rfl
theorem el95 : elemOk Try.prog 95 4 40 = true := by kernel_rfl
theorem fo95_0 : fieldOff Try.prog 95 0 = some (0, 17) := by kernel_rfl
theorem fo95_1 : fieldOff Try.prog 95 1 = some (1, 17) := by kernel_rfl
theorem fo95_2 : fieldOff Try.prog 95 2 = some (2, 17) := by kernel_rfl
theorem fo95_3 : fieldOff Try.prog 95 3 = some (3, 9) := by kernel_rfl
theorem ta96 : tyAgg Try.prog 96 = some (some 4) := by kernel_rfl
theorem sz96 : szOf Try.prog 96 = some 4 := by kernel_rfl
theorem zm96 : zeroMV Try.prog 96 = some [.ptr0, .ptr0, .ptr0, .str (bs [])] := by kernel_rfl
theorem el96 : elemOk Try.prog 96 4 40 = true := by kernel_rfl
theorem fo96_0 : fieldOff Try.prog 96 0 = some (0, 17) := by kernel_rfl
theorem fo96_1 : fieldOff Try.prog 96 1 = some (1, 17) := by kernel_rfl
theorem fo96_2 : fieldOff Try.prog 96 2 = some (2, 17) := by kernel_rfl
theorem fo96_3 : fieldOff Try.prog 96 3 = some (3, 9) := by kernel_rfl
theorem ta97 : tyAgg Try.prog 97 = some (some 0) := by kernel_rfl
theorem sz97 : szOf Try.prog 97 = some 0 := by kernel_rfl
theorem ta98 : tyAgg Try.prog 98 = some (some 0) := by kernel_rfl
theorem sz98 : szOf Try.prog 98 = some 0 := by kernel_rfl
theorem ta99 : tyAgg Try.prog 99 = some (some 0) := by kernel_rfl
theorem sz99 : szOf Try.prog 99 = some 0 := by kernel_rfl
theorem ta100 : tyAgg Try.prog 100 = some none := by kernel_rfl
theorem sz100 : szOf Try.prog 100 = some 1 := by kernel_rfl
theorem zm100 : zeroMV Try.prog 100 = some [.int .u32 0] := by kernel_rfl
theorem el100 : elemOk Try.prog 100 1 4 = true := by kernel_rfl
theorem ta101 : tyAgg Try.prog 101 = some none := by kernel_rfl
theorem sz101 : szOf Try.prog 101 = some 1 := by kernel_rfl
theorem zm101 : zeroMV Try.prog 101 = some [.int .u8 0] := by kernel_rfl
theorem el101 : elemOk Try.prog 101 1 1 = true := by kernel_rfl
theorem ta102 : tyAgg Try.prog 102 = some none := by kernel_rfl
theorem sz102 : szOf Try.prog 102 = some 1 := by kernel_rfl
theorem zm102 : zeroMV Try.prog 102 = some [.int .u8 0] := by kernel_rfl
theorem el102 : elemOk Try.prog 102 1 1 = true := by kernel_rfl
theorem ta104 : tyAgg Try.prog 104 = some none := by kernel_rfl
theorem sz104 : szOf Try.prog 104 = some 1 := by kernel_rfl
theorem zm104 : zeroMV Try.prog 104 = some [.ptr0] := by kernel_rfl
theorem el104 : elemOk Try.prog 104 1 8 = true := by kernel_rfl
theorem ta105 : tyAgg Try.prog 105 = some none := by kernel_rfl
theorem sz105 : szOf Try.prog 105 = some 1 := by kernel_rfl
theorem zm105 : zeroMV Try.prog 105 = some [.int .i32 0] := by kernel_rfl
theorem el105 : elemOk Try.prog 105 1 4 = true := by kernel_rfl
theorem ta106 : tyAgg Try.prog 106 = some none := by kernel_rfl
theorem sz106 : szOf Try.prog 106 = some 1 := by kernel_rfl
theorem zm106 : zeroMV Try.prog 106 = some [.int .i32 0] := by kernel_rfl
theorem el106 : elemOk Try.prog 106 1 4 = true := by kernel_rfl
theorem ta107 : tyAgg Try.prog 107 = some (some 11) := by kernel_rfl
theorem sz107 : szOf Try.prog 107 = some 11 := by kernel_rfl
theorem zm107 : zeroMV Try.prog 107 = some [.int .u64 0, .int .u64 0, .int .u32 0, .int .u8 0, .int .u8 0, .int .u8 0, .int .u8 0, .fn0, .ptr0, .int .i32 0, .int .i32 0] := by kernel_rfl
theorem el107 : elemOk Try.prog 107 11 48 = true := by kernel_rfl
theorem fo107_0 : fieldOff Try.prog 107 0 = some (0, 12) := by kernel_rfl
theorem fo107_1 : fieldOff Try.prog 107 1 = some (1, 12) := by kernel_rfl
theorem fo107_2 : fieldOff Try.prog 107 2 = some (2, 100) := by kernel_rfl
theorem fo107_3 : fieldOff Try.prog 107 3 = some (3, 101) := by kernel_rfl
theorem fo107_4 : fieldOff Try.prog 107 4 = some (4, 5) := by kernel_rfl
theorem fo107_5 : fieldOff Try.prog 107 5 = some (5, 5) := by kernel_rfl
theorem fo107_6 : fieldOff Try.prog 107 6 = some (6, 102) := by kernel_rfl
theorem fo107_7 : fieldOff Try.prog 107 7 = some (7, 103) := by kernel_rfl
theorem fo107_8 : fieldOff Try.prog 107 8 = some (8, 104) := by kernel_rfl
theorem fo107_9 : fieldOff Try.prog 107 9 = some (9, 105) := by kernel_rfl
theorem fo107_10 : fieldOff Try.prog 107 10 = some (10, 106) := by kernel_rfl
theorem ta108 : tyAgg Try.prog 108 = some (some 11) := by kernel_rfl
theorem sz108 : szOf Try.prog 108 = some 11 := by kernel_rfl
theorem zm108 : zeroMV Try.prog 108 = some [.int .u64 0, .int .u64 0, .int .u32 0, .int .u8 0, .int .u8 0, .int .u8 0, .int .u8 0, .fn0, .ptr0, .int .i32 0, .int .i32 0] := by kernel_rfl
theorem el108 : elemOk Try.prog 108 11 48 = true := by kernel_rfl
theorem fo108_0 : fieldOff Try.prog 108 0 = some (0, 12) := by kernel_rfl
theorem fo108_1 : fieldOff Try.prog 108 1 = some (1, 12) := by kernel_rfl
theorem fo108_2 : fieldOff Try.prog 108 2 = some (2, 100) := by kernel_rfl
theorem fo108_3 : fieldOff Try.prog 108 3 = some (3, 101) := by kernel_rfl
theorem fo108_4 : fieldOff Try.prog 108 4 = some (4, 5) := by kernel_rfl
theorem fo108_5 : fieldOff Try.prog 108 5 = some (5, 5) := by kernel_rfl
theorem fo108_6 : fieldOff Try.prog 108 6 = some (6, 102) := by kernel_rfl
theorem fo108_7 : fieldOff Try.prog 108 7 = some (7, 103) := by kernel_rfl
theorem fo108_8 : fieldOff Try.prog 108 8 = some (8, 104) := by kernel_rfl
theorem fo108_9 : fieldOff Try.prog 108 9 = some (9, 105) := by kernel_rfl
theorem fo108_10 : fieldOff Try.prog 108 10 = some (10, 106) := by kernel_rfl
theorem ta115 : tyAgg Try.prog 115 = some (some 2) := by kernel_rfl
theorem sz115 : szOf Try.prog 115 = some 2 := by kernel_rfl
theorem zm115 : zeroMV Try.prog 115 = some [.str (bs []), .int .u8 0] := by kernel_rfl
theorem el115 : elemOk Try.prog 115 2 24 = true := by kernel_rfl
theorem fo115_0 : fieldOff Try.prog 115 0 = some (0, 9) := by kernel_rfl
theorem fo115_1 : fieldOff Try.prog 115 1 = some (1, 102) := by kernel_rfl
theorem ta116 : tyAgg Try.prog 116 = some (some 2) := by kernel_rfl
theorem sz116 : szOf Try.prog 116 = some 2 := by kernel_rfl
theorem zm116 : zeroMV Try.prog 116 = some [.str (bs []), .int .u8 0] := by kernel_rfl
theorem el116 : elemOk Try.prog 116 2 24 = true := by kernel_rfl
theorem fo116_0 : fieldOff Try.prog 116 0 = some (0, 9) := by kernel_rfl
theorem fo116_1 : fieldOff Try.prog 116 1 = some (1, 102) := by kernel_rfl
theorem ta117 : tyAgg Try.prog 117 = some none := by kernel_rfl
theorem sz117 : szOf Try.prog 117 = some 1 := by kernel_rfl
theorem zm117 : zeroMV Try.prog 117 = some [.ptr0] := by kernel_rfl
theorem el117 : elemOk Try.prog 117 1 8 = true := by kernel_rfl
theorem ta118 : tyAgg Try.prog 118 = some none := by kernel_rfl
theorem sz118 : szOf Try.prog 118 = some 1 := by kernel_rfl
theorem zm118 : zeroMV Try.prog 118 = some [.ptr0] := by kernel_rfl
theorem el118 : elemOk Try.prog 118 1 8 = true := by kernel_rfl
theorem ta120 : tyAgg Try.prog 120 = some none := by kernel_rfl
theorem sz120 : szOf Try.prog 120 = some 1 := by kernel_rfl
theorem zm120 : zeroMV Try.prog 120 = some [.int .u16 0] := by kernel_rfl
theorem el120 : elemOk Try.prog 120 1 2 = true := by kernel_rfl
theorem ta121 : tyAgg Try.prog 121 = some (some 5) := by kernel_rfl
theorem sz121 : szOf Try.prog 121 = some 5 := by kernel_rfl
theorem zm121 : zeroMV Try.prog 121 = some [.int .i32 0, .int .u16 0, .int .u16 0, .int .u32 0, .int .u32 0] := by kernel_rfl
theorem el121 : elemOk Try.prog 121 5 16 = true := by kernel_rfl
theorem fo121_0 : fieldOff Try.prog 121 0 = some (0, 105) := by kernel_rfl
theorem fo121_1 : fieldOff Try.prog 121 1 = some (1, 120) := by kernel_rfl
theorem fo121_2 : fieldOff Try.prog 121 2 = some (2, 120) := by kernel_rfl
theorem fo121_3 : fieldOff Try.prog 121 3 = some (3, 100) := by kernel_rfl
theorem fo121_4 : fieldOff Try.prog 121 4 = some (4, 100) := by kernel_rfl
theorem ta122 : tyAgg Try.prog 122 = some (some 5) := by kernel_rfl
theorem sz122 : szOf Try.prog 122 = some 5 := by kernel_rfl
theorem zm122 : zeroMV Try.prog 122 = some [.int .i32 0, .int .u16 0, .int .u16 0, .int .u32 0, .int .u32 0] := by kernel_rfl
theorem el122 : elemOk Try.prog 122 5 16 = true := by kernel_rfl
theorem fo122_0 : fieldOff Try.prog 122 0 = some (0, 105) := by kernel_rfl
theorem fo122_1 : fieldOff Try.prog 122 1 = some (1, 120) := by kernel_rfl
theorem fo122_2 : fieldOff Try.prog 122 2 = some (2, 120) := by kernel_rfl
theorem fo122_3 : fieldOff Try.prog 122 3 = some (3, 100) := by kernel_rfl
theorem fo122_4 : fieldOff Try.prog 122 4 = some (4, 100) := by kernel_rfl
theorem ta123 : tyAgg Try.prog 123 = some none := by kernel_rfl
theorem sz123 : szOf Try.prog 123 = some 1 := by kernel_rfl
theorem zm123 : zeroMV Try.prog 123 = some [.lst0] := by kernel_rfl
theorem el123 : elemOk Try.prog 123 1 24 = true := by kernel_rfl
theorem ta124 : tyAgg Try.prog 124 = some none := by kernel_rfl
theorem sz124 : szOf Try.prog 124 = some 1 := by kernel_rfl
theorem zm124 : zeroMV Try.prog 124 = some [.int .i32 0] := by kernel_rfl
theorem el124 : elemOk Try.prog 124 1 4 = true := by kernel_rfl
theorem ta125 : tyAgg Try.prog 125 = some (some 4) := by kernel_rfl
theorem sz125 : szOf Try.prog 125 = some 4 := by kernel_rfl
theorem zm125 : zeroMV Try.prog 125 = some [.int .i32 0, .int .i32 0, .int .i32 0, .int .i32 0] := by kernel_rfl
theorem el125 : elemOk Try.prog 125 4 16 = true := by kernel_rfl
theorem fo125_0 : fieldOff Try.prog 125 0 = some (0, 105) := by kernel_rfl
theorem fo125_1 : fieldOff Try.prog 125 1 = some (1, 106) := by kernel_rfl
theorem fo125_2 : fieldOff Try.prog 125 2 = some (2, 124) := by kernel_rfl
theorem fo125_3 : fieldOff Try.prog 125 3 = some (3, 124) := by kernel_rfl
theorem ta126 : tyAgg Try.prog 126 = some (some 4) := by kernel_rfl
theorem sz126 : szOf Try.prog 126 = some 4 := by kernel_rfl
theorem zm126 : zeroMV Try.prog 126 = some [.int .i32 0, .int .i32 0, .int .i32 0, .int .i32 0] := by kernel_rfl
theorem el126 : elemOk Try.prog 126 4 16 = true := by kernel_rfl
theorem fo126_0 : fieldOff Try.prog 126 0 = some (0, 105) := by kernel_rfl
theorem fo126_1 : fieldOff Try.prog 126 1 = some (1, 106) := by kernel_rfl
theorem fo126_2 : fieldOff Try.prog 126 2 = some (2, 124) := by kernel_rfl
theorem fo126_3 : fieldOff Try.prog 126 3 = some (3, 124) := by kernel_rfl
theorem co3 : CallOk Try.prog 3 := ⟨_, _, Try.func3, by kernel_rfl, rfl⟩
theorem co4 : CallOk Try.prog 4 := ⟨_, _, Try.func4, by kernel_rfl, rfl⟩
theorem co5 : CallOk Try.prog 5 := ⟨_, _, Try.func5, by kernel_rfl, rfl⟩
theorem co6 : CallOk Try.prog 6 := ⟨_, _, Try.func6, by kernel_rfl, rfl⟩
theorem co7 : CallOk Try.prog 7 := ⟨_, _, Try.func7, by kernel_rfl, rfl⟩
theorem co8 : CallOk Try.prog 8 := ⟨_, _, Try.func8, by kernel_rfl, rfl⟩
theorem co9 : CallOk Try.prog 9 := ⟨_, _, Try.func9, by kernel_rfl, rfl⟩
theorem co10 : CallOk Try.prog 10 := ⟨_, _, Try.func10, by kernel_rfl, rfl⟩
theorem co11 : CallOk Try.prog 11 := ⟨_, _, Try.func11, by kernel_rfl, rfl⟩
theorem co12 : CallOk Try.prog 12 := ⟨_, _, Try.func12, by kernel_rfl, rfl⟩
theorem co13 : CallOk Try.prog 13 := ⟨_, _, Try.func13, by kernel_rfl, rfl⟩
theorem co14 : CallOk Try.prog 14 := ⟨_, _, Try.func14, by kernel_rfl, rfl⟩
theorem co15 : CallOk Try.prog 15 := ⟨_, _, Try.func15, by kernel_rfl, rfl⟩
theorem co16 : CallOk Try.prog 16 := ⟨_, _, Try.func16, by kernel_rfl, rfl⟩
theorem co17 : CallOk Try.prog 17 := ⟨_, _, Try.func17, by kernel_rfl, rfl⟩
theorem co18 : CallOk Try.prog 18 := ⟨_, _, Try.func18, by kernel_rfl, rfl⟩
theorem co19 : CallOk Try.prog 19 := ⟨_, _, Try.func19, by kernel_rfl, rfl⟩
theorem co20 : CallOk Try.prog 20 := ⟨_, _, Try.func20, by kernel_rfl, rfl⟩
theorem co21 : CallOk Try.prog 21 := ⟨_, _, Try.func21, by kernel_rfl, rfl⟩
theorem co22 : CallOk Try.prog 22 := ⟨_, _, Try.func22, by kernel_rfl, rfl⟩
theorem co23 : CallOk Try.prog 23 := ⟨_, _, Try.func23, by kernel_rfl, rfl⟩
theorem co24 : CallOk Try.prog 24 := ⟨_, _, Try.func24, by kernel_rfl, rfl⟩
theorem co25 : CallOk Try.prog 25 := ⟨_, _, Try.func25, by kernel_rfl, rfl⟩
theorem co26 : CallOk Try.prog 26 := ⟨_, _, Try.func26, by kernel_rfl, rfl⟩
theorem co27 : CallOk Try.prog 27 := ⟨_, _, Try.func27, by kernel_rfl, rfl⟩
theorem co28 : CallOk Try.prog 28 := ⟨_, _, Try.func28, by kernel_rfl, rfl⟩
theorem co29 : CallOk Try.prog 29 := ⟨_, _, Try.func29, by kernel_rfl, rfl⟩
theorem co30 : CallOk Try.prog 30 := ⟨_, _, Try.func30, by kernel_rfl, rfl⟩
theorem co31 : CallOk Try.prog 31 := ⟨_, _, Try.func31, by kernel_rfl, rfl⟩
theorem co33 : CallOk Try.prog 33 := ⟨_, _, Try.func33, by kernel_rfl, rfl⟩
theorem co34 : CallOk Try.prog 34 := ⟨_, _, Try.func34, by kernel_rfl, rfl⟩
theorem co35 : CallOk Try.prog 35 := ⟨_, _, Try.func35, by kernel_rfl, rfl⟩
theorem co36 : CallOk Try.prog 36 := ⟨_, _, Try.func36, by kernel_rfl, rfl⟩
theorem co37 : CallOk Try.prog 37 := ⟨_, _, Try.func37, by kernel_rfl, rfl⟩
theorem co38 : CallOk Try.prog 38 := ⟨_, _, Try.func38, by kernel_rfl, rfl⟩
theorem co39 : CallOk Try.prog 39 := ⟨_, _, Try.func39, by kernel_rfl, rfl⟩
theorem co40 : CallOk Try.prog 40 := ⟨_, _, Try.func40, by kernel_rfl, rfl⟩
theorem co41 : CallOk Try.prog 41 := ⟨_, _, Try.func41, by kernel_rfl, rfl⟩
theorem co42 : CallOk Try.prog 42 := ⟨_, _, Try.func42, by kernel_rfl, rfl⟩
theorem co43 : CallOk Try.prog 43 := ⟨_, _, Try.func43, by kernel_rfl, rfl⟩
theorem co44 : CallOk Try.prog 44 := ⟨_, _, Try.func44, by kernel_rfl, rfl⟩
theorem co45 : CallOk Try.prog 45 := ⟨_, _, Try.func45, by kernel_rfl, rfl⟩
theorem co46 : CallOk Try.prog 46 := ⟨_, _, Try.func46, by kernel_rfl, rfl⟩
end Go.Proofs.Ytddcpfbmoahnpaa
