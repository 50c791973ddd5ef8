/-
  Closed facts on the types and functions of this seat's program, by program (wip/tools/facts.py).
-/
import Derived.Test.YtiocekmiaediiaaProg
import Derived.Test.YtiocekmiaediiaaRng
import Derived.KernelRfl
set_option linter.unusedVariables false
namespace Go.Proofs.Ytiocekmiaediiaa
open Go Go.MV
theorem mo : Try.prog.follows .mixedOrders = true := by kernel_rfl
theorem ta2 : tyAgg Try.prog 2 = some none := by kernel_rfl
theorem sz2 : szOf Try.prog 2 = some 1 := by kernel_rfl
theorem zm2 : zeroMV Try.prog 2 = some [.int .i64 0] := by kernel_rfl
theorem el2 : elemOk Try.prog 2 1 8 = true := by kernel_rfl
theorem ta3 : tyAgg Try.prog 3 = some none := by kernel_rfl
theorem sz3 : szOf Try.prog 3 = some 1 := by kernel_rfl
theorem zm3 : zeroMV Try.prog 3 = some [.int .i64 0] := by kernel_rfl
theorem el3 : elemOk Try.prog 3 1 8 = true := by kernel_rfl
theorem ta4 : tyAgg Try.prog 4 = some none := by kernel_rfl
theorem sz4 : szOf Try.prog 4 = some 1 := by kernel_rfl
theorem zm4 : zeroMV Try.prog 4 = some [.bool false] := by kernel_rfl
theorem el4 : elemOk Try.prog 4 1 1 = true := by kernel_rfl
theorem ta5 : tyAgg Try.prog 5 = some none := by kernel_rfl
theorem sz5 : szOf Try.prog 5 = some 1 := by kernel_rfl
theorem zm5 : zeroMV Try.prog 5 = some [.int .u8 0] := by kernel_rfl
theorem el5 : elemOk Try.prog 5 1 1 = true := by kernel_rfl
theorem ta6 : tyAgg Try.prog 6 = some none := by kernel_rfl
theorem sz6 : szOf Try.prog 6 = some 1 := by kernel_rfl
theorem zm6 : zeroMV Try.prog 6 = some [.int .u8 0] := by kernel_rfl
theorem el6 : elemOk Try.prog 6 1 1 = true := by kernel_rfl
theorem ta7 : tyAgg Try.prog 7 = some (some 4) := by kernel_rfl
theorem sz7 : szOf Try.prog 7 = some 4 := by kernel_rfl
theorem zm7 : zeroMV Try.prog 7 = some [.int .i64 0, .int .i64 0, .bool false, .int .u8 0] := by kernel_rfl
theorem el7 : elemOk Try.prog 7 4 24 = true := by kernel_rfl
theorem fo7_0 : fieldOff Try.prog 7 0 = some (0, 2) := by kernel_rfl
theorem fo7_1 : fieldOff Try.prog 7 1 = some (1, 3) := by kernel_rfl
theorem fo7_2 : fieldOff Try.prog 7 2 = some (2, 4) := by kernel_rfl
theorem fo7_3 : fieldOff Try.prog 7 3 = some (3, 6) := by kernel_rfl
theorem ta8 : tyAgg Try.prog 8 = some (some 4) := by kernel_rfl
theorem sz8 : szOf Try.prog 8 = some 4 := by kernel_rfl
theorem zm8 : zeroMV Try.prog 8 = some [.int .i64 0, .int .i64 0, .bool false, .int .u8 0] := by kernel_rfl
theorem el8 : elemOk Try.prog 8 4 24 = true := by kernel_rfl
theorem fo8_0 : fieldOff Try.prog 8 0 = some (0, 2) := by kernel_rfl
theorem fo8_1 : fieldOff Try.prog 8 1 = some (1, 3) := by kernel_rfl
theorem fo8_2 : fieldOff Try.prog 8 2 = some (2, 4) := by kernel_rfl
theorem fo8_3 : fieldOff Try.prog 8 3 = some (3, 6) := by kernel_rfl
theorem ta9 : tyAgg Try.prog 9 = some none := by kernel_rfl
theorem sz9 : szOf Try.prog 9 = some 1 := by kernel_rfl
theorem zm9 : zeroMV Try.prog 9 = some [.str (bs [])] := by kernel_rfl
theorem el9 : elemOk Try.prog 9 1 16 = true := by kernel_rfl
theorem ta10 : tyAgg Try.prog 10 = some none := by kernel_rfl
theorem sz10 : szOf Try.prog 10 = some 1 := by kernel_rfl
theorem zm10 : zeroMV Try.prog 10 = some [.str (bs [])] := by kernel_rfl
theorem el10 : elemOk Try.prog 10 1 16 = true := by kernel_rfl
theorem ta11 : tyAgg Try.prog 11 = some none := by kernel_rfl
theorem sz11 : szOf Try.prog 11 = some 1 := by kernel_rfl
theorem zm11 : zeroMV Try.prog 11 = some [.str (bs [])] := by kernel_rfl
theorem el11 : elemOk Try.prog 11 1 16 = true := by kernel_rfl
theorem ta12 : tyAgg Try.prog 12 = some none := by kernel_rfl
theorem sz12 : szOf Try.prog 12 = some 1 := by kernel_rfl
theorem zm12 : zeroMV Try.prog 12 = some [.int .u64 0] := by kernel_rfl
theorem el12 : elemOk Try.prog 12 1 8 = true := by kernel_rfl
theorem ta13 : tyAgg Try.prog 13 = some (some 2) := by kernel_rfl
theorem sz13 : szOf Try.prog 13 = some 2 := by kernel_rfl
theorem zm13 : zeroMV Try.prog 13 = some [.str (bs []), .int .u64 0] := by kernel_rfl
theorem el13 : elemOk Try.prog 13 2 24 = true := by kernel_rfl
theorem fo13_0 : fieldOff Try.prog 13 0 = some (0, 9) := by kernel_rfl
theorem fo13_1 : fieldOff Try.prog 13 1 = some (1, 12) := by kernel_rfl
theorem ta14 : tyAgg Try.prog 14 = some (some 2) := by kernel_rfl
theorem sz14 : szOf Try.prog 14 = some 2 := by kernel_rfl
theorem zm14 : zeroMV Try.prog 14 = some [.str (bs []), .int .u64 0] := by kernel_rfl
theorem el14 : elemOk Try.prog 14 2 24 = true := by kernel_rfl
theorem fo14_0 : fieldOff Try.prog 14 0 = some (0, 9) := by kernel_rfl
theorem fo14_1 : fieldOff Try.prog 14 1 = some (1, 12) := by kernel_rfl
theorem ta15 : tyAgg Try.prog 15 = some none := by kernel_rfl
theorem sz15 : szOf Try.prog 15 = some 1 := by kernel_rfl
theorem zm15 : zeroMV Try.prog 15 = some [.ptr0] := by kernel_rfl
theorem el15 : elemOk Try.prog 15 1 8 = true := by kernel_rfl
theorem ta16 : tyAgg Try.prog 16 = some none := by kernel_rfl
theorem sz16 : szOf Try.prog 16 = some 1 := by kernel_rfl
theorem zm16 : zeroMV Try.prog 16 = some [.ptr0] := by kernel_rfl
theorem el16 : elemOk Try.prog 16 1 8 = true := by kernel_rfl
theorem ta17 : tyAgg Try.prog 17 = some none := by kernel_rfl
theorem sz17 : szOf Try.prog 17 = some 1 := by kernel_rfl
theorem zm17 : zeroMV Try.prog 17 = some [.ptr0] := by kernel_rfl
theorem el17 : elemOk Try.prog 17 1 8 = true := by kernel_rfl
theorem ta18 : tyAgg Try.prog 18 = some (some 1) := by kernel_rfl
theorem sz18 : szOf Try.prog 18 = some 1 := by kernel_rfl
theorem zm18 : zeroMV Try.prog 18 = some [.ptr0] := by kernel_rfl
theorem el18 : elemOk Try.prog 18 1 8 = true := by kernel_rfl
theorem fo18_0 : fieldOff Try.prog 18 0 = some (0, 17) := by kernel_rfl
theorem ta19 : tyAgg Try.prog 19 = some (some 1) := by kernel_rfl
theorem sz19 : szOf Try.prog 19 = some 1 := by kernel_rfl
theorem zm19 : zeroMV Try.prog 19 = some [.ptr0] := by kernel_rfl
theorem el19 : elemOk Try.prog 19 1 8 = true := by kernel_rfl
theorem fo19_0 : fieldOff Try.prog 19 0 = some (0, 17) := by kernel_rfl
theorem ta20 : tyAgg Try.prog 20 = some none := by kernel_rfl
theorem sz20 : szOf Try.prog 20 = some 1 := by kernel_rfl
theorem zm20 : zeroMV Try.prog 20 = some [.iface0] := by kernel_rfl
theorem el20 : elemOk Try.prog 20 1 16 = true := by kernel_rfl
theorem ta21 : tyAgg Try.prog 21 = some none := by kernel_rfl
theorem sz21 : szOf Try.prog 21 = some 1 := by kernel_rfl
theorem zm21 : zeroMV Try.prog 21 = some [.int .i32 0] := by kernel_rfl
theorem el21 : elemOk Try.prog 21 1 4 = true := by kernel_rfl
theorem ta22 : tyAgg Try.prog 22 = some none := by kernel_rfl
theorem sz22 : szOf Try.prog 22 = some 1 := by kernel_rfl
theorem zm22 : zeroMV Try.prog 22 = some [.lst0] := by kernel_rfl
theorem el22 : elemOk Try.prog 22 1 24 = true := by kernel_rfl
theorem ta23 : tyAgg Try.prog 23 = some (some 2) := by kernel_rfl
theorem sz23 : szOf Try.prog 23 = some 2 := by kernel_rfl
theorem zm23 : zeroMV Try.prog 23 = some [.int .i64 0, .lst0] := by kernel_rfl
theorem el23 : elemOk Try.prog 23 2 32 = true := by kernel_rfl
theorem fo23_0 : fieldOff Try.prog 23 0 = some (0, 3) := by kernel_rfl
theorem fo23_1 : fieldOff Try.prog 23 1 = some (1, 22) := by kernel_rfl
theorem ta24 : tyAgg Try.prog 24 = some (some 2) := by kernel_rfl
theorem sz24 : szOf Try.prog 24 = some 2 := by kernel_rfl
theorem zm24 : zeroMV Try.prog 24 = some [.int .i64 0, .lst0] := by kernel_rfl
theorem el24 : elemOk Try.prog 24 2 32 = true := by kernel_rfl
theorem fo24_0 : fieldOff Try.prog 24 0 = some (0, 3) := by kernel_rfl
theorem fo24_1 : fieldOff Try.prog 24 1 = some (1, 22) := by kernel_rfl
theorem ta30 : tyAgg Try.prog 30 = some none := by kernel_rfl
theorem sz30 : szOf Try.prog 30 = some 1 := by kernel_rfl
theorem zm30 : zeroMV Try.prog 30 = some [.int .u32 0] := by kernel_rfl
theorem el30 : elemOk Try.prog 30 1 4 = true := by kernel_rfl
theorem ta31 : tyAgg Try.prog 31 = some none := by kernel_rfl
theorem sz31 : szOf Try.prog 31 = some 1 := by kernel_rfl
theorem zm31 : zeroMV Try.prog 31 = some [.int .u64 0] := by kernel_rfl
theorem el31 : elemOk Try.prog 31 1 8 = true := by kernel_rfl
theorem ta33 : tyAgg Try.prog 33 = some none := by kernel_rfl
theorem sz33 : szOf Try.prog 33 = some 1 := by kernel_rfl
theorem zm33 : zeroMV Try.prog 33 = some [.lst0] := by kernel_rfl
theorem el33 : elemOk Try.prog 33 1 24 = true := by kernel_rfl
theorem ta36 : tyAgg Try.prog 36 = some none := by kernel_rfl
theorem sz36 : szOf Try.prog 36 = some 1 := by kernel_rfl
theorem zm36 : zeroMV Try.prog 36 = some [.int .u64 0] := by kernel_rfl
theorem el36 : elemOk Try.prog 36 1 8 = true := by kernel_rfl
theorem ta42 : tyAgg Try.prog 42 = some none := by kernel_rfl
theorem sz42 : szOf Try.prog 42 = some 1 := by kernel_rfl
theorem zm42 : zeroMV Try.prog 42 = some [.lst0] := by kernel_rfl
theorem el42 : elemOk Try.prog 42 1 24 = true := by kernel_rfl
theorem ta43 : tyAgg Try.prog 43 = some (some 8) := by kernel_rfl
theorem sz43 : szOf Try.prog 43 = some 8 := by kernel_rfl
theorem zm43 : zeroMV Try.prog 43 = some [.int .u64 0, .int .u64 0, .int .u64 0, .int .u64 0, .int .u64 0, .int .u64 0, .int .u64 0, .int .u64 0] := by kernel_rfl
theorem el43 : elemOk Try.prog 43 8 64 = true := by kernel_rfl
theorem ta44 : tyAgg Try.prog 44 = some (some 2) := by kernel_rfl
theorem sz44 : szOf Try.prog 44 = some 2 := by kernel_rfl
theorem zm44 : zeroMV Try.prog 44 = some [.int .i64 0, .int .u64 0] := by kernel_rfl
theorem el44 : elemOk Try.prog 44 2 16 = true := by kernel_rfl
theorem fo44_0 : fieldOff Try.prog 44 0 = some (0, 3) := by kernel_rfl
theorem fo44_1 : fieldOff Try.prog 44 1 = some (1, 36) := by kernel_rfl
theorem ta45 : tyAgg Try.prog 45 = some (some 2) := by kernel_rfl
theorem sz45 : szOf Try.prog 45 = some 2 := by kernel_rfl
theorem zm45 : zeroMV Try.prog 45 = some [.int .i64 0, .int .u64 0] := by kernel_rfl
theorem el45 : elemOk Try.prog 45 2 16 = true := by kernel_rfl
theorem fo45_0 : fieldOff Try.prog 45 0 = some (0, 3) := by kernel_rfl
theorem fo45_1 : fieldOff Try.prog 45 1 = some (1, 36) := by kernel_rfl
theorem ta59 : tyAgg Try.prog 59 = some (some 4) := by kernel_rfl
theorem sz59 : szOf Try.prog 59 = some 4 := by kernel_rfl
theorem zm59 : zeroMV Try.prog 59 = some [.ptr0, .ptr0, .ptr0, .str (bs [])] := by kernel_rfl
theorem el59 : elemOk Try.prog 59 4 40 = true := by kernel_rfl
theorem fo59_0 : fieldOff Try.prog 59 0 = some (0, 17) := by kernel_rfl
theorem fo59_1 : fieldOff Try.prog 59 1 = some (1, 17) := by kernel_rfl
theorem fo59_2 : fieldOff Try.prog 59 2 = some (2, 17) := by kernel_rfl
theorem fo59_3 : fieldOff Try.prog 59 3 = some (3, 9) := by kernel_rfl
theorem ta60 : tyAgg Try.prog 60 = some (some 4) := by kernel_rfl
theorem sz60 : szOf Try.prog 60 = some 4 := by kernel_rfl
theorem zm60 : zeroMV Try.prog 60 = some [.ptr0, .ptr0, .ptr0, .str (bs [])] := by kernel_rfl
theorem el60 : elemOk Try.prog 60 4 40 = true := by kernel_rfl
theorem fo60_0 : fieldOff Try.prog 60 0 = some (0, 17) := by kernel_rfl
theorem fo60_1 : fieldOff Try.prog 60 1 = some (1, 17) := by kernel_rfl
theorem fo60_2 : fieldOff Try.prog 60 2 = some (2, 17) := by kernel_rfl
theorem fo60_3 : fieldOff Try.prog 60 3 = some (3, 9) := by kernel_rfl
theorem ta61 : tyAgg Try.prog 61 = some (some 0) := by kernel_rfl
theorem sz61 : szOf Try.prog 61 = some 0 := by kernel_rfl
theorem ta62 : tyAgg Try.prog 62 = some (some 0) := by kernel_rfl
theorem sz62 : szOf Try.prog 62 = some 0 := by kernel_rfl
theorem ta63 : tyAgg Try.prog 63 = some (some 0) := by kernel_rfl
theorem sz63 : szOf Try.prog 63 = some 0 := by kernel_rfl
theorem ta65 : tyAgg Try.prog 65 = some none := by kernel_rfl
theorem sz65 : szOf Try.prog 65 = some 1 := by kernel_rfl
theorem zm65 : zeroMV Try.prog 65 = some [.int .u8 0] := by kernel_rfl
theorem el65 : elemOk Try.prog 65 1 1 = true := by kernel_rfl
theorem ta66 : tyAgg Try.prog 66 = some none := by kernel_rfl
theorem sz66 : szOf Try.prog 66 = some 1 := by kernel_rfl
theorem zm66 : zeroMV Try.prog 66 = some [.int .u8 0] := by kernel_rfl
theorem el66 : elemOk Try.prog 66 1 1 = true := by kernel_rfl
theorem ta68 : tyAgg Try.prog 68 = some none := by kernel_rfl
theorem sz68 : szOf Try.prog 68 = some 1 := by kernel_rfl
theorem zm68 : zeroMV Try.prog 68 = some [.ptr0] := by kernel_rfl
theorem el68 : elemOk Try.prog 68 1 8 = true := by kernel_rfl
theorem ta69 : tyAgg Try.prog 69 = some none := by kernel_rfl
theorem sz69 : szOf Try.prog 69 = some 1 := by kernel_rfl
theorem zm69 : zeroMV Try.prog 69 = some [.int .i32 0] := by kernel_rfl
theorem el69 : elemOk Try.prog 69 1 4 = true := by kernel_rfl
theorem ta70 : tyAgg Try.prog 70 = some none := by kernel_rfl
theorem sz70 : szOf Try.prog 70 = some 1 := by kernel_rfl
theorem zm70 : zeroMV Try.prog 70 = some [.int .i32 0] := by kernel_rfl
theorem el70 : elemOk Try.prog 70 1 4 = true := by kernel_rfl
theorem ta71 : tyAgg Try.prog 71 = some (some 11) := by kernel_rfl
theorem sz71 : szOf Try.prog 71 = some 11 := by kernel_rfl
theorem zm71 : zeroMV Try.prog 71 = some [.int .u64 0, .int .u64 0, .int .u32 0, .int .u8 0, .int .u8 0, .int .u8 0, .int .u8 0, .fn0, .ptr0, .int .i32 0, .int .i32 0] := by kernel_rfl
theorem el71 : elemOk Try.prog 71 11 48 = true := by kernel_rfl
theorem fo71_0 : fieldOff Try.prog 71 0 = some (0, 12) := by kernel_rfl
theorem fo71_1 : fieldOff Try.prog 71 1 = some (1, 12) := by kernel_rfl
theorem fo71_2 : fieldOff Try.prog 71 2 = some (2, 30) := by kernel_rfl
theorem fo71_3 : fieldOff Try.prog 71 3 = some (3, 65) := by kernel_rfl
theorem fo71_4 : fieldOff Try.prog 71 4 = some (4, 5) := by kernel_rfl
theorem fo71_5 : fieldOff Try.prog 71 5 = some (5, 5) := by kernel_rfl
theorem fo71_6 : fieldOff Try.prog 71 6 = some (6, 66) := by kernel_rfl
theorem fo71_7 : fieldOff Try.prog 71 7 = some (7, 67) := by kernel_rfl
theorem fo71_8 : fieldOff Try.prog 71 8 = some (8, 68) := by kernel_rfl
theorem fo71_9 : fieldOff Try.prog 71 9 = some (9, 69) := by kernel_rfl
theorem fo71_10 : fieldOff Try.prog 71 10 = some (10, 70) := by kernel_rfl
theorem ta72 : tyAgg Try.prog 72 = some (some 11) := by kernel_rfl
theorem sz72 : szOf Try.prog 72 = some 11 := by kernel_rfl
theorem zm72 : zeroMV Try.prog 72 = some [.int .u64 0, .int .u64 0, .int .u32 0, .int .u8 0, .int .u8 0, .int .u8 0, .int .u8 0, .fn0, .ptr0, .int .i32 0, .int .i32 0] := by kernel_rfl
theorem el72 : elemOk Try.prog 72 11 48 = true := by kernel_rfl
theorem fo72_0 : fieldOff Try.prog 72 0 = some (0, 12) := by kernel_rfl
theorem fo72_1 : fieldOff Try.prog 72 1 = some (1, 12) := by kernel_rfl
theorem fo72_2 : fieldOff Try.prog 72 2 = some (2, 30) := by kernel_rfl
theorem fo72_3 : fieldOff Try.prog 72 3 = some (3, 65) := by kernel_rfl
theorem fo72_4 : fieldOff Try.prog 72 4 = some (4, 5) := by kernel_rfl
theorem fo72_5 : fieldOff Try.prog 72 5 = some (5, 5) := by kernel_rfl
theorem fo72_6 : fieldOff Try.prog 72 6 = some (6, 66) := by kernel_rfl
theorem fo72_7 : fieldOff Try.prog 72 7 = some (7, 67) := by kernel_rfl
theorem fo72_8 : fieldOff Try.prog 72 8 = some (8, 68) := by kernel_rfl
theorem fo72_9 : fieldOff Try.prog 72 9 = some (9, 69) := by kernel_rfl
theorem fo72_10 : fieldOff Try.prog 72 10 = some (10, 70) := by kernel_rfl
theorem ta73 : tyAgg Try.prog 73 = some none := by kernel_rfl
theorem sz73 : szOf Try.prog 73 = some 1 := by kernel_rfl
theorem zm73 : zeroMV Try.prog 73 = some [.ptr0] := by kernel_rfl
theorem el73 : elemOk Try.prog 73 1 8 = true := by kernel_rfl
theorem co3 : CallOk Try.prog 3 := ⟨_, _, Try.func3, by kernel_rfl, rfl⟩
theorem co4 : CallOk Try.prog 4 := ⟨_, _, Try.func4, by kernel_rfl, rfl⟩
theorem co5 : CallOk Try.prog 5 := ⟨_, _, Try.func5, by kernel_rfl, rfl⟩
theorem co6 : CallOk Try.prog 6 := ⟨_, _, Try.func6, by kernel_rfl, rfl⟩
theorem co7 : CallOk Try.prog 7 := ⟨_, _, Try.func7, by kernel_rfl, rfl⟩
theorem co8 : CallOk Try.prog 8 := ⟨_, _, Try.func8, by kernel_rfl, rfl⟩
theorem co9 : CallOk Try.prog 9 := ⟨_, _, Try.func9, by kernel_rfl, rfl⟩
theorem co10 : CallOk Try.prog 10 := ⟨_, _, Try.func10, by kernel_rfl, rfl⟩
theorem co11 : CallOk Try.prog 11 := ⟨_, _, Try.func11, by kernel_rfl, rfl⟩
theorem co12 : CallOk Try.prog 12 := ⟨_, _, Try.func12, by kernel_rfl, rfl⟩
theorem co13 : CallOk Try.prog 13 := ⟨_, _, Try.func13, by kernel_rfl, rfl⟩
theorem co14 : CallOk Try.prog 14 := ⟨_, _, Try.func14, by kernel_rfl, rfl⟩
theorem co15 : CallOk Try.prog 15 := ⟨_, _, Try.func15, by kernel_rfl, rfl⟩
theorem co16 : CallOk Try.prog 16 := ⟨_, _, Try.func16, by kernel_rfl, rfl⟩
theorem co17 : CallOk Try.prog 17 := ⟨_, _, Try.func17, by kernel_rfl, rfl⟩
theorem co18 : CallOk Try.prog 18 := ⟨_, _, Try.func18, by kernel_rfl, rfl⟩
theorem co19 : CallOk Try.prog 19 := ⟨_, _, Try.func19, by kernel_rfl, rfl⟩
theorem co20 : CallOk Try.prog 20 := ⟨_, _, Try.func20, by kernel_rfl, rfl⟩
theorem co21 : CallOk Try.prog 21 := ⟨_, _, Try.func21, by kernel_rfl, rfl⟩
theorem co22 : CallOk Try.prog 22 := ⟨_, _, Try.func22, by kernel_rfl, rfl⟩
theorem co23 : CallOk Try.prog 23 := ⟨_, _, Try.func23, by kernel_rfl, rfl⟩
theorem co24 : CallOk Try.prog 24 := ⟨_, _, Try.func24, by kernel_rfl, rfl⟩
theorem co25 : CallOk Try.prog 25 := ⟨_, _, Try.func25, by kernel_rfl, rfl⟩
theorem co26 : CallOk Try.prog 26 := ⟨_, _, Try.func26, by kernel_rfl, rfl⟩
theorem co27 : CallOk Try.prog 27 := ⟨_, _, Try.func27, by kernel_rfl, rfl⟩
theorem co28 : CallOk Try.prog 28 := ⟨_, _, Try.func28, by kernel_rfl, rfl⟩
theorem co29 : CallOk Try.prog 29 := ⟨_, _, Try.func29, by kernel_rfl, rfl⟩
theorem co30 : CallOk Try.prog 30 := ⟨_, _, Try.func30, by kernel_rfl, rfl⟩
theorem co31 : CallOk Try.prog 31 := ⟨_, _, Try.func31, by kernel_rfl, rfl⟩
theorem co32 : CallOk Try.prog 32 := ⟨_, _, Try.func32, by kernel_rfl, rfl⟩
theorem co33 : CallOk Try.prog 33 := ⟨_, _, Try.func33, by kernel_rfl, rfl⟩
theorem co34 : CallOk Try.prog 34 := ⟨_, _, Try.func34, by kernel_rfl, rfl⟩
theorem co35 : CallOk Try.prog 35 := ⟨_, _, Try.func35, by kernel_rfl, rfl⟩
theorem co36 : CallOk Try.prog 36 := ⟨_, _, Try.func36, by kernel_rfl, rfl⟩
theorem co37 : CallOk Try.prog 37 := ⟨_, _, Try.func37, by kernel_rfl, rfl⟩
theorem co38 : CallOk Try.prog 38 := ⟨_, _, Try.func38, by kernel_rfl, rfl⟩
theorem co39 : CallOk Try.prog 39 := ⟨_, _, Try.func39, by kernel_rfl, rfl⟩
theorem co40 : CallOk Try.prog 40 := ⟨_, _, Try.func40, by kernel_rfl, rfl⟩
theorem co41 : CallOk Try.prog 41 := ⟨_, _, Try.func41, by kernel_rfl, rfl⟩
theorem co42 : CallOk Try.prog 42 := ⟨_, _, Try.func42, by kernel_rfl, rfl⟩
theorem co43 : CallOk Try.prog 43 := ⟨_, _, Try.func43, by kernel_rfl, rfl⟩
theorem co44 : CallOk Try.prog 44 := ⟨_, _, Try.func44, by kernel_rfl, rfl⟩
theorem co45 : CallOk Try.prog 45 := ⟨_, _, Try.func45, by kernel_rfl, rfl⟩
theorem co46 : CallOk Try.prog 46 := ⟨_, _, Try.func46, by kernel_rfl, rfl⟩
theorem co47 : CallOk Try.prog 47 := ⟨_, _, Try.func47, by kernel_rfl, rfl⟩
end Go.Proofs.Ytiocekmiaediiaa
