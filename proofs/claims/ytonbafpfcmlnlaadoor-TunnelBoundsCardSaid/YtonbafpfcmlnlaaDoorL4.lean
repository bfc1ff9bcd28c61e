/- Parts of the proof, one after another; what each part shows stands at its head. No conditions. -/
import Derived.Test.YtonbafpfcmlnlaaDoorL3
import Derived.Test.YtonbafpfcmlnlaaDoorProg
import Derived.KernelRfl
set_option linter.all false

/- The compiled functions (printed by pir.lean). -/
namespace Go.Am
open Go.Proofs

/- flume/flumelaw12.TunnelOnce -/
def fn3u1 : Cd := (.region [⟨some 21, none, .bin .add (.t 13) (.c (.int .i64 1)), []⟩,
    ⟨some 13, none, .mov (.t 21), []⟩])
def fn3u2 : Cd := (.seq (.block 1 (.seq (.region [⟨some 15, none, .iaddr 5 (.t 11) (.t 13), []⟩,
    ⟨some 16, none, .load true 5 (.t 15), []⟩,
    ⟨some 5, none, .box 29 5 (.c (.agg [(.int .i64 0), (.int .i64 0), (.int .i64 0), .nil, (.bool false)])), []⟩,
    ⟨none, none, .store 5 (.t 5) (.t 16), []⟩])
  (.seq (.region [⟨some 17, none, .mov (.t 3), []⟩,
    ⟨some 18, none, .load true 5 (.t 5), []⟩,
    ⟨some 19, none, .call 15 [(.t 17), (.t 18)], []⟩,
    ⟨some 20, none, .un .not (.t 19), []⟩])
  (.cond (.t 20) (.seq (.region [⟨some 2, none, .mov (.c (.bool false)), []⟩])
  .ret)
  .skip))))
  fn3u1)
def fn3u3 : Cd := (.seq (.region [⟨some 14, none, .bin .lss (.t 13) (.t 12), []⟩])
  (.seq (.cond (.t 14) .skip
  (.exit 0))
  fn3u2))
def fn3u4 : Cd := (.seq (.region [⟨some 22, none, .call 13 [], []⟩,
    ⟨some 2, none, .mov (.t 22), []⟩])
  .ret)
def fn3u5 : Cd := (.seq (.region [⟨some 10, none, .call 14 [], []⟩,
    ⟨some 3, none, .mov (.t 10), []⟩])
  (.seq (.seq (.region [⟨some 11, none, .mov (.t 0), []⟩,
    ⟨some 12, none, .len (.t 11), []⟩,
    ⟨some 13, none, .mov (.c (.int .i64 0)), []⟩])
  (.block 0 (.loop fn3u3)))
  fn3u4))
def fn3 : Fn0 := ⟨1, (.seq (.region [⟨some 2, none, .mov (.c (.bool false)), []⟩])
  (.seq (.seq (.region [⟨some 6, none, .mov (.t 0), []⟩,
    ⟨some 7, none, .call 12 [(.t 6)], []⟩,
    ⟨some 8, none, .un .not (.t 7), []⟩])
  (.cond (.t 8) (.seq (.region [⟨some 9, none, .call 13 [], []⟩,
    ⟨some 2, none, .mov (.t 9), []⟩])
  .ret)
  .skip))
  fn3u5)),
  [.tmp 2]⟩
theorem fn3uis : cFn Tryd.prog 3 = some fn3 := by kernel_rfl

/- flume/flumelaw12.TunnelBounds -/
def fn4u1 : Cd := (.cond (.t 57) (.seq (.region [⟨some 2, none, .mov (.c (.bool false)), []⟩])
  .ret)
  .skip)
def fn4u2 : Cd := (.region [⟨some 58, none, .bin .add (.t 27) (.c (.int .i64 1)), []⟩,
    ⟨some 27, none, .mov (.t 58), []⟩])
def fn4u3 : Cd := (.seq (.block 3 (.seq (.region [⟨some 29, none, .idxA false 2 1 (.t 26) (.t 27), []⟩,
    ⟨some 7, none, .mov (.t 29), []⟩])
  (.seq (.region [⟨some 30, none, .mov (.t 7), []⟩,
    ⟨some 31, none, .call 16 [(.t 30)], []⟩,
    ⟨some 32, none, .bin .gtr (.t 31) (.c (.int .i64 64)), []⟩,
    ⟨some 33, none, .mov (.t 32), []⟩,
    ⟨some 34, (some (33, false)), .mov (.t 7), []⟩,
    ⟨some 35, (some (33, false)), .call 17 [(.t 34)], []⟩,
    ⟨some 36, (some (33, false)), .mov (.t 35), []⟩,
    ⟨some 37, (some (36, true)), .mov (.t 7), []⟩,
    ⟨some 38, (some (36, true)), .call 18 [(.t 37)], []⟩,
    ⟨some 39, (some (36, true)), .mov (.t 7), []⟩,
    ⟨some 40, (some (36, true)), .call 16 [(.t 39)], []⟩,
    ⟨some 41, (some (36, true)), .bin .sub (.c (.int .i64 64)) (.t 40), []⟩,
    ⟨some 42, (some (36, true)), .bin .neq (.t 38) (.t 41), []⟩,
    ⟨some 43, (some (33, false)), .pick (.t 36) (.t 42) (.c (.bool false)), []⟩,
    ⟨some 44, none, .pick (.t 33) (.c (.bool true)) (.t 43), []⟩,
    ⟨some 45, none, .mov (.t 44), []⟩,
    ⟨some 46, (some (45, false)), .mov (.t 7), []⟩,
    ⟨some 47, (some (45, false)), .call 17 [(.t 46)], []⟩,
    ⟨some 48, (some (45, false)), .un .not (.t 47), []⟩,
    ⟨some 49, (some (45, false)), .mov (.t 48), []⟩,
    ⟨some 50, (some (49, true)), .mov (.t 7), []⟩,
    ⟨some 51, (some (49, true)), .call 18 [(.t 50)], []⟩,
    ⟨some 52, (some (49, true)), .mov (.t 7), []⟩,
    ⟨some 53, (some (49, true)), .call 16 [(.t 52)], []⟩,
    ⟨some 54, (some (49, true)), .bin .add (.t 51) (.t 53), []⟩,
    ⟨some 55, (some (49, true)), .bin .neq (.t 54) (.c (.int .i64 0)), []⟩,
    ⟨some 56, (some (45, false)), .pick (.t 49) (.t 55) (.c (.bool false)), []⟩,
    ⟨some 57, none, .pick (.t 45) (.c (.bool true)) (.t 56), []⟩])
  fn4u1)))
  fn4u2)
def fn4u4 : Cd := (.seq (.region [⟨some 28, none, .bin .lss (.t 27) (.c (.int .i64 2)), []⟩])
  (.seq (.cond (.t 28) .skip
  (.exit 2))
  fn4u3))
def fn4u5 : Cd := (.seq (.region [⟨some 23, none, .mov (.t 3), []⟩,
    ⟨some 24, none, .nilck (.t 23), []⟩,
    ⟨some 25, none, .faddr (.t 24) 0, []⟩,
    ⟨some 26, none, .load true 2 (.t 25), []⟩,
    ⟨some 27, none, .mov (.c (.int .i64 0)), []⟩])
  (.block 2 (.loop fn4u4)))
def fn4u6 : Cd := (.region [⟨some 59, none, .bin .add (.t 15) (.c (.int .i64 1)), []⟩,
    ⟨some 15, none, .mov (.t 59), []⟩])
def fn4u7 : Cd := (.seq (.block 1 (.seq (.region [⟨some 17, none, .iaddr 5 (.t 13) (.t 15), []⟩,
    ⟨some 18, none, .load true 5 (.t 17), []⟩,
    ⟨some 5, none, .box 29 5 (.c (.agg [(.int .i64 0), (.int .i64 0), (.int .i64 0), .nil, (.bool false)])), []⟩,
    ⟨none, none, .store 5 (.t 5) (.t 18), []⟩])
  (.seq (.seq (.region [⟨some 19, none, .mov (.t 3), []⟩,
    ⟨some 20, none, .load true 5 (.t 5), []⟩,
    ⟨some 21, none, .call 15 [(.t 19), (.t 20)], []⟩,
    ⟨some 22, none, .un .not (.t 21), []⟩])
  (.cond (.t 22) (.seq (.region [⟨some 2, none, .mov (.c (.bool false)), []⟩])
  .ret)
  .skip))
  fn4u5)))
  fn4u6)
def fn4u8 : Cd := (.seq (.region [⟨some 16, none, .bin .lss (.t 15) (.t 14), []⟩])
  (.seq (.cond (.t 16) .skip
  (.exit 0))
  fn4u7))
def fn4u9 : Cd := (.seq (.region [⟨some 60, none, .call 13 [], []⟩,
    ⟨some 2, none, .mov (.t 60), []⟩])
  .ret)
def fn4u10 : Cd := (.seq (.region [⟨some 12, none, .call 14 [], []⟩,
    ⟨some 3, none, .mov (.t 12), []⟩])
  (.seq (.seq (.region [⟨some 13, none, .mov (.t 0), []⟩,
    ⟨some 14, none, .len (.t 13), []⟩,
    ⟨some 15, none, .mov (.c (.int .i64 0)), []⟩])
  (.block 0 (.loop fn4u8)))
  fn4u9))
def fn4 : Fn0 := ⟨1, (.seq (.region [⟨some 2, none, .mov (.c (.bool false)), []⟩])
  (.seq (.seq (.region [⟨some 8, none, .mov (.t 0), []⟩,
    ⟨some 9, none, .call 12 [(.t 8)], []⟩,
    ⟨some 10, none, .un .not (.t 9), []⟩])
  (.cond (.t 10) (.seq (.region [⟨some 11, none, .call 13 [], []⟩,
    ⟨some 2, none, .mov (.t 11), []⟩])
  .ret)
  .skip))
  fn4u10)),
  [.tmp 2]⟩
theorem fn4uis : cFn Tryd.prog 4 = some fn4 := by kernel_rfl

/- flume/flumelaw12.TunnelSettles -/
def fn5u1 : Cd := (.region [⟨some 29, none, .bin .add (.t 21) (.c (.int .i64 1)), []⟩,
    ⟨some 21, none, .mov (.t 29), []⟩])
def fn5u2 : Cd := (.seq (.block 1 (.seq (.region [⟨some 23, none, .iaddr 5 (.t 19) (.t 21), []⟩,
    ⟨some 24, none, .load true 5 (.t 23), []⟩,
    ⟨some 5, none, .box 29 5 (.c (.agg [(.int .i64 0), (.int .i64 0), (.int .i64 0), .nil, (.bool false)])), []⟩,
    ⟨none, none, .store 5 (.t 5) (.t 24), []⟩])
  (.seq (.region [⟨some 25, none, .mov (.t 3), []⟩,
    ⟨some 26, none, .load true 5 (.t 5), []⟩,
    ⟨some 27, none, .call 15 [(.t 25), (.t 26)], []⟩,
    ⟨some 28, none, .un .not (.t 27), []⟩])
  (.cond (.t 28) (.seq (.region [⟨some 2, none, .mov (.c (.bool false)), []⟩])
  .ret)
  .skip))))
  fn5u1)
def fn5u3 : Cd := (.seq (.region [⟨some 22, none, .bin .lss (.t 21) (.t 20), []⟩])
  (.seq (.cond (.t 22) .skip
  (.exit 0))
  fn5u2))
def fn5u4 : Cd := (.cond (.t 76) (.seq (.region [⟨some 2, none, .mov (.c (.bool false)), []⟩])
  .ret)
  .skip)
def fn5u5 : Cd := (.seq (.region [⟨some 68, none, .mov (.t 7), []⟩,
    ⟨some 69, none, .bin .gtr (.t 68) (.c (.int .i64 5000)), []⟩,
    ⟨some 70, none, .mov (.t 69), []⟩,
    ⟨some 71, (some (70, false)), .mov (.t 3), []⟩,
    ⟨some 72, (some (70, false)), .mov (.t 8), []⟩,
    ⟨some 73, (some (70, false)), .build [(.int .i64 0), (.int .i64 0), (.int .i64 0), .nil, (.bool false)] [(1, 1, (.t 72))], []⟩,
    ⟨some 74, (some (70, false)), .call 15 [(.t 71), (.t 73)], []⟩,
    ⟨some 75, (some (70, false)), .un .not (.t 74), []⟩,
    ⟨some 76, none, .pick (.t 70) (.c (.bool true)) (.t 75), []⟩])
  fn5u4)
def fn5u6 : Cd := (.region [⟨some 59, none, .mov (.t 7), []⟩,
    ⟨some 60, none, .bin .add (.t 59) (.c (.int .i64 1)), []⟩,
    ⟨some 7, none, .mov (.t 60), []⟩])
def fn5u7 : Cd := (.seq (.block 5 (.seq (.region [⟨some 8, none, .mov (.c (.int .i64 0)), []⟩])
  (.seq (.seq (.region [⟨some 61, none, .mov (.t 3), []⟩,
    ⟨some 62, none, .nilck (.t 61), []⟩,
    ⟨some 63, none, .faddr (.t 62) 2, []⟩,
    ⟨some 64, none, .iaddrA 2 1 (.t 63) (.c (.int .i64 0)), []⟩,
    ⟨some 65, none, .load false 1 (.t 64), []⟩,
    ⟨some 66, none, .len (.t 65), []⟩,
    ⟨some 67, none, .bin .eql (.t 66) (.c (.int .i64 0)), []⟩])
  (.cond (.t 67) (.region [⟨some 8, none, .mov (.c (.int .i64 1)), []⟩])
  .skip))
  fn5u5)))
  fn5u6)
def fn5u8 : Cd := (.seq (.seq (.draw (.pre [⟨some 45, none, .mov (.t 3), []⟩,
    ⟨some 46, none, .nilck (.t 45), []⟩,
    ⟨some 47, none, .faddr (.t 46) 2, []⟩,
    ⟨some 48, none, .iaddrA 2 1 (.t 47) (.c (.int .i64 0)), []⟩,
    ⟨some 49, none, .load false 1 (.t 48), []⟩,
    ⟨some 50, none, .len (.t 49), []⟩,
    ⟨some 51, none, .mov (.t 3), []⟩,
    ⟨some 52, none, .nilck (.t 51), []⟩,
    ⟨some 53, none, .faddr (.t 52) 2, []⟩,
    ⟨some 54, none, .iaddrA 2 1 (.t 53) (.c (.int .i64 1)), []⟩,
    ⟨some 55, none, .load false 1 (.t 54), []⟩,
    ⟨some 56, none, .len (.t 55), []⟩,
    ⟨some 57, none, .bin .add (.t 50) (.t 56), []⟩,
    ⟨some 58, none, .bin .gtr (.t 57) (.c (.int .i64 0)), []⟩]
  .done))
  (.cond (.t 58) .skip
  (.exit 4)))
  fn5u7)
def fn5u9 : Cd := (.seq (.region [⟨some 39, none, .mov (.t 3), []⟩,
    ⟨some 40, none, .build [(.int .i64 0), (.int .i64 0), (.int .i64 0), .nil, (.bool false)] [(0, 1, (.c (.int .i64 4))), (1, 1, (.c (.int .i64 0)))], []⟩,
    ⟨some 41, none, .call 15 [(.t 39), (.t 40)], []⟩])
  (.seq (.region [⟨some 42, none, .mov (.t 3), []⟩,
    ⟨some 43, none, .build [(.int .i64 0), (.int .i64 0), (.int .i64 0), .nil, (.bool false)] [(0, 1, (.c (.int .i64 4))), (1, 1, (.c (.int .i64 1)))], []⟩,
    ⟨some 44, none, .call 15 [(.t 42), (.t 43)], []⟩])
  (.seq (.region [⟨some 7, none, .mov (.c (.int .i64 0)), []⟩])
  (.block 4 (.loop fn5u8)))))
def fn5u10 : Cd := (.region [⟨some 77, none, .bin .add (.t 30) (.c (.int .i64 1)), []⟩,
    ⟨some 30, none, .mov (.t 77), []⟩])
def fn5u11 : Cd := (.seq (.block 3 (.seq (.region [⟨some 32, none, .mov (.t 30), []⟩,
    ⟨some 6, none, .mov (.t 32), []⟩])
  (.seq (.seq (.region [⟨some 33, none, .mov (.t 6), []⟩,
    ⟨some 34, none, .bin .rem (.t 33) (.c (.int .i64 20)), []⟩,
    ⟨some 35, none, .bin .eql (.t 34) (.c (.int .i64 0)), []⟩])
  (.cond (.t 35) (.region [⟨some 36, none, .mov (.t 3), []⟩,
    ⟨some 37, none, .build [(.int .i64 0), (.int .i64 0), (.int .i64 0), .nil, (.bool false)] [(0, 1, (.c (.int .i64 8)))], []⟩,
    ⟨some 38, none, .call 15 [(.t 36), (.t 37)], []⟩])
  .skip))
  fn5u9)))
  fn5u10)
def fn5u12 : Cd := (.seq (.region [⟨some 31, none, .bin .lss (.t 30) (.c (.int .i64 100)), []⟩])
  (.seq (.cond (.t 31) .skip
  (.exit 2))
  fn5u11))
def fn5u13 : Cd := (.cond (.t 117) (.seq (.region [⟨some 2, none, .mov (.c (.bool false)), []⟩])
  .ret)
  .skip)
def fn5u14 : Cd := (.region [⟨some 147, none, .bin .add (.t 122) (.c (.int .i64 1)), []⟩,
    ⟨some 122, none, .mov (.t 147), []⟩])
def fn5u15 : Cd := (.seq (.block 7 (.seq (.region [⟨some 124, none, .mov (.t 122), []⟩,
    ⟨some 125, none, .idxA false 2 1 (.t 121) (.t 122), []⟩,
    ⟨some 11, none, .mov (.t 124), []⟩,
    ⟨some 12, none, .mov (.t 125), []⟩])
  (.seq (.region [⟨some 126, none, .mov (.t 12), []⟩,
    ⟨some 127, none, .call 20 [(.t 126)], []⟩,
    ⟨some 128, none, .mov (.t 12), []⟩,
    ⟨some 129, none, .call 19 [(.t 128)], []⟩,
    ⟨some 130, none, .mov (.t 11), []⟩,
    ⟨some 131, none, .bin .sub (.c (.int .i64 1)) (.t 130), []⟩,
    ⟨some 132, none, .build [(.int .i64 0), (.int .i64 0), (.int .i64 0)] [(0, 1, (.t 127)), (1, 1, (.t 129)), (2, 1, (.t 131))], []⟩,
    ⟨some 13, none, .box 39 3 (.c (.agg [(.int .i64 0), (.int .i64 0), (.int .i64 0)])), []⟩,
    ⟨none, none, .store 3 (.t 13) (.t 132), []⟩])
  (.seq (.draw (.pre [⟨some 133, none, .mov (.t 3), []⟩,
    ⟨some 134, none, .nilck (.t 133), []⟩,
    ⟨some 135, none, .faddr (.t 134) 4, []⟩,
    ⟨some 136, none, .load false 1 (.t 135), []⟩,
    ⟨some 137, none, .load true 3 (.t 13), []⟩,
    ⟨some 138, none, .lookup (some 3) .nil (.t 136) (.t 137) false, []⟩,
    ⟨some 139, none, .mov (.t 3), []⟩,
    ⟨some 140, none, .nilck (.t 139), []⟩,
    ⟨some 141, none, .faddr (.t 140) 5, []⟩,
    ⟨some 142, none, .load false 1 (.t 141), []⟩,
    ⟨some 143, none, .load true 3 (.t 13), []⟩,
    ⟨some 144, none, .lookup (some 3) .nil (.t 142) (.t 143) false, []⟩]
  (.act ⟨some 145, none, .call 21 [(.t 138), (.t 144)], []⟩
  (.pre [⟨some 146, none, .un .not (.t 145), []⟩]
  .done))))
  (.cond (.t 146) (.seq (.region [⟨some 2, none, .mov (.c (.bool false)), []⟩])
  .ret)
  .skip)))))
  fn5u14)
def fn5u16 : Cd := (.seq (.region [⟨some 123, none, .bin .lss (.t 122) (.c (.int .i64 2)), []⟩])
  (.seq (.cond (.t 123) .skip
  (.exit 6))
  fn5u15))
def fn5u17 : Cd := (.seq (.region [⟨some 148, none, .call 13 [], []⟩,
    ⟨some 2, none, .mov (.t 148), []⟩])
  .ret)
def fn5u18 : Cd := (.seq (.seq (.region [⟨some 118, none, .mov (.t 3), []⟩,
    ⟨some 119, none, .nilck (.t 118), []⟩,
    ⟨some 120, none, .faddr (.t 119) 0, []⟩,
    ⟨some 121, none, .load true 2 (.t 120), []⟩,
    ⟨some 122, none, .mov (.c (.int .i64 0)), []⟩])
  (.block 6 (.loop fn5u16)))
  fn5u17)
def fn5u19 : Cd := (.seq (.draw (.pre [⟨some 78, none, .mov (.t 3), []⟩,
    ⟨some 79, none, .nilck (.t 78), []⟩,
    ⟨some 80, none, .faddr (.t 79) 0, []⟩,
    ⟨some 81, none, .iaddrA 2 1 (.t 80) (.c (.int .i64 0)), []⟩,
    ⟨some 82, none, .load false 1 (.t 81), []⟩,
    ⟨some 83, none, .mov (.t 3), []⟩,
    ⟨some 84, none, .nilck (.t 83), []⟩,
    ⟨some 85, none, .faddr (.t 84) 0, []⟩,
    ⟨some 86, none, .iaddrA 2 1 (.t 85) (.c (.int .i64 1)), []⟩,
    ⟨some 87, none, .load false 1 (.t 86), []⟩,
    ⟨some 9, none, .mov (.t 82), []⟩,
    ⟨some 10, none, .mov (.t 87), []⟩]
  .done))
  (.seq (.seq (.region [⟨some 88, none, .mov (.t 9), []⟩,
    ⟨some 89, none, .call 17 [(.t 88)], []⟩,
    ⟨some 90, none, .un .not (.t 89), []⟩,
    ⟨some 91, none, .mov (.t 90), []⟩,
    ⟨some 92, (some (91, false)), .mov (.t 10), []⟩,
    ⟨some 93, (some (91, false)), .call 17 [(.t 92)], []⟩,
    ⟨some 94, (some (91, false)), .un .not (.t 93), []⟩,
    ⟨some 95, none, .pick (.t 91) (.c (.bool true)) (.t 94), []⟩,
    ⟨some 96, none, .mov (.t 95), []⟩,
    ⟨some 97, (some (96, false)), .mov (.t 9), []⟩,
    ⟨some 98, (some (96, false)), .call 19 [(.t 97)], []⟩,
    ⟨some 99, (some (96, false)), .mov (.t 10), []⟩,
    ⟨some 100, (some (96, false)), .call 20 [(.t 99)], []⟩,
    ⟨some 101, (some (96, false)), .bin .neq (.t 98) (.t 100), []⟩,
    ⟨some 102, none, .pick (.t 96) (.c (.bool true)) (.t 101), []⟩,
    ⟨some 103, none, .mov (.t 102), []⟩,
    ⟨some 104, (some (103, false)), .mov (.t 10), []⟩,
    ⟨some 105, (some (103, false)), .call 19 [(.t 104)], []⟩,
    ⟨some 106, (some (103, false)), .mov (.t 9), []⟩,
    ⟨some 107, (some (103, false)), .call 20 [(.t 106)], []⟩,
    ⟨some 108, (some (103, false)), .bin .neq (.t 105) (.t 107), []⟩,
    ⟨some 109, none, .pick (.t 103) (.c (.bool true)) (.t 108), []⟩,
    ⟨some 110, none, .mov (.t 109), []⟩,
    ⟨some 111, (some (110, false)), .mov (.t 9), []⟩,
    ⟨some 112, (some (110, false)), .call 16 [(.t 111)], []⟩,
    ⟨some 113, (some (110, false)), .mov (.t 10), []⟩,
    ⟨some 114, (some (110, false)), .call 16 [(.t 113)], []⟩,
    ⟨some 115, (some (110, false)), .bin .add (.t 112) (.t 114), []⟩,
    ⟨some 116, (some (110, false)), .bin .neq (.t 115) (.c (.int .i64 0)), []⟩,
    ⟨some 117, none, .pick (.t 110) (.c (.bool true)) (.t 116), []⟩])
  fn5u13)
  fn5u18))
def fn5u20 : Cd := (.seq (.seq (.region [⟨some 30, none, .mov (.c (.int .i64 0)), []⟩])
  (.block 2 (.loop fn5u12)))
  fn5u19)
def fn5u21 : Cd := (.seq (.region [⟨some 18, none, .call 14 [], []⟩,
    ⟨some 3, none, .mov (.t 18), []⟩])
  (.seq (.seq (.region [⟨some 19, none, .mov (.t 0), []⟩,
    ⟨some 20, none, .len (.t 19), []⟩,
    ⟨some 21, none, .mov (.c (.int .i64 0)), []⟩])
  (.block 0 (.loop fn5u3)))
  fn5u20))
def fn5 : Fn0 := ⟨1, (.seq (.region [⟨some 2, none, .mov (.c (.bool false)), []⟩])
  (.seq (.seq (.region [⟨some 14, none, .mov (.t 0), []⟩,
    ⟨some 15, none, .call 12 [(.t 14)], []⟩,
    ⟨some 16, none, .un .not (.t 15), []⟩])
  (.cond (.t 16) (.seq (.region [⟨some 17, none, .call 13 [], []⟩,
    ⟨some 2, none, .mov (.t 17), []⟩])
  .ret)
  .skip))
  fn5u21)),
  [.tmp 2]⟩
theorem fn5uis : cFn Tryd.prog 5 = some fn5 := by kernel_rfl

/- flume/flumelaw12.TunnelSame -/
def fn6u1 : Cd := (.cond (.t 20) (.seq (.region [⟨some 21, none, .call 13 [], []⟩,
    ⟨some 4, none, .mov (.t 21), []⟩])
  .ret)
  .skip)
def fn6u2 : Cd := (.seq (.region [⟨some 42, none, .mov (.t 5), []⟩,
    ⟨some 43, none, .load true 5 (.t 9), []⟩,
    ⟨some 44, none, .call 15 [(.t 42), (.t 43)], []⟩])
  (.region [⟨some 45, none, .mov (.t 6), []⟩,
    ⟨some 46, none, .load true 5 (.t 9), []⟩,
    ⟨some 47, none, .call 15 [(.t 45), (.t 46)], []⟩]))
def fn6u3 : Cd := (.region [⟨some 48, none, .bin .add (.t 27) (.c (.int .i64 1)), []⟩,
    ⟨some 27, none, .mov (.t 48), []⟩])
def fn6u4 : Cd := (.seq (.block 1 (.seq (.region [⟨some 29, none, .mov (.t 27), []⟩,
    ⟨some 30, none, .iaddr 5 (.t 25) (.t 27), []⟩,
    ⟨some 31, none, .load true 5 (.t 30), []⟩,
    ⟨some 9, none, .box 29 5 (.c (.agg [(.int .i64 0), (.int .i64 0), (.int .i64 0), .nil, (.bool false)])), []⟩,
    ⟨some 8, none, .mov (.t 29), []⟩,
    ⟨none, none, .store 5 (.t 9) (.t 31), []⟩])
  (.seq (.seq (.region [⟨some 32, none, .mov (.t 8), []⟩,
    ⟨some 33, none, .mov (.t 1), []⟩,
    ⟨some 34, none, .len (.t 33), []⟩,
    ⟨some 35, none, .bin .lss (.t 32) (.t 34), []⟩])
  (.cond (.t 35) (.region [⟨some 36, none, .mov (.t 7), []⟩,
    ⟨some 37, none, .mov (.t 1), []⟩,
    ⟨some 38, none, .mov (.t 8), []⟩,
    ⟨some 39, none, .iaddr 5 (.t 37) (.t 38), []⟩,
    ⟨some 40, none, .load true 5 (.t 39), []⟩,
    ⟨some 41, none, .call 15 [(.t 36), (.t 40)], []⟩])
  .skip))
  fn6u2)))
  fn6u3)
def fn6u5 : Cd := (.seq (.region [⟨some 28, none, .bin .lss (.t 27) (.t 26), []⟩])
  (.seq (.cond (.t 28) .skip
  (.exit 0))
  fn6u4))
def fn6u6 : Cd := (.cond (.t 112) (.seq (.region [⟨some 4, none, .mov (.c (.bool false)), []⟩])
  .ret)
  .skip)
def fn6u7 : Cd := (.region [⟨some 113, none, .bin .add (.t 49) (.c (.int .i64 1)), []⟩,
    ⟨some 49, none, .mov (.t 113), []⟩])
def fn6u8 : Cd := (.seq (.block 3 (.seq (.region [⟨some 51, none, .mov (.t 49), []⟩,
    ⟨some 10, none, .mov (.t 51), []⟩])
  (.seq (.draw (.pre [⟨some 52, none, .mov (.t 5), []⟩,
    ⟨some 53, none, .mov (.t 10), []⟩,
    ⟨some 54, none, .nilck (.t 52), []⟩,
    ⟨some 55, none, .faddr (.t 54) 0, []⟩,
    ⟨some 56, none, .iaddrA 2 1 (.t 55) (.t 53), []⟩,
    ⟨some 57, none, .load false 1 (.t 56), []⟩,
    ⟨some 58, none, .mov (.t 6), []⟩,
    ⟨some 59, none, .mov (.t 10), []⟩,
    ⟨some 60, none, .nilck (.t 58), []⟩,
    ⟨some 61, none, .faddr (.t 60) 0, []⟩,
    ⟨some 62, none, .iaddrA 2 1 (.t 61) (.t 59), []⟩,
    ⟨some 63, none, .load false 1 (.t 62), []⟩,
    ⟨some 11, none, .mov (.t 57), []⟩,
    ⟨some 12, none, .mov (.t 63), []⟩]
  .done))
  (.seq (.draw (.pre [⟨some 64, none, .mov (.t 5), []⟩,
    ⟨some 65, none, .mov (.t 10), []⟩,
    ⟨some 66, none, .nilck (.t 64), []⟩,
    ⟨some 67, none, .faddr (.t 66) 2, []⟩,
    ⟨some 68, none, .iaddrA 2 1 (.t 67) (.t 65), []⟩,
    ⟨some 69, none, .load false 1 (.t 68), []⟩,
    ⟨some 70, none, .mov (.t 6), []⟩,
    ⟨some 71, none, .mov (.t 10), []⟩,
    ⟨some 72, none, .nilck (.t 70), []⟩,
    ⟨some 73, none, .faddr (.t 72) 2, []⟩,
    ⟨some 74, none, .iaddrA 2 1 (.t 73) (.t 71), []⟩,
    ⟨some 75, none, .load false 1 (.t 74), []⟩]
  (.act ⟨some 76, none, .call 21 [(.t 69), (.t 75)], []⟩
  (.pre [⟨some 77, none, .un .not (.t 76), []⟩,
    ⟨some 78, none, .mov (.t 77), []⟩,
    ⟨some 79, (some (78, false)), .mov (.t 11), []⟩,
    ⟨some 81, (some (78, false)), .mov (.t 12), []⟩]
  (.act ⟨some 80, (some (78, false)), .call 20 [(.t 79)], []⟩
  (.act ⟨some 82, (some (78, false)), .call 20 [(.t 81)], []⟩
  (.pre [⟨some 83, (some (78, false)), .bin .neq (.t 80) (.t 82), []⟩,
    ⟨some 84, none, .pick (.t 78) (.c (.bool true)) (.t 83), []⟩,
    ⟨some 85, none, .mov (.t 84), []⟩,
    ⟨some 86, (some (85, false)), .mov (.t 11), []⟩,
    ⟨some 88, (some (85, false)), .mov (.t 12), []⟩]
  (.act ⟨some 87, (some (85, false)), .call 19 [(.t 86)], []⟩
  (.act ⟨some 89, (some (85, false)), .call 19 [(.t 88)], []⟩
  (.pre [⟨some 90, (some (85, false)), .bin .neq (.t 87) (.t 89), []⟩,
    ⟨some 91, none, .pick (.t 85) (.c (.bool true)) (.t 90), []⟩,
    ⟨some 92, none, .mov (.t 91), []⟩,
    ⟨some 93, (some (92, false)), .mov (.t 11), []⟩,
    ⟨some 95, (some (92, false)), .mov (.t 12), []⟩]
  (.act ⟨some 94, (some (92, false)), .call 17 [(.t 93)], []⟩
  (.act ⟨some 96, (some (92, false)), .call 17 [(.t 95)], []⟩
  (.pre [⟨some 97, (some (92, false)), .eq true .bool (.t 94) (.t 96), []⟩,
    ⟨some 98, none, .pick (.t 92) (.c (.bool true)) (.t 97), []⟩,
    ⟨some 99, none, .mov (.t 98), []⟩,
    ⟨some 100, (some (99, false)), .mov (.t 11), []⟩,
    ⟨some 102, (some (99, false)), .mov (.t 12), []⟩]
  (.act ⟨some 101, (some (99, false)), .call 22 [(.t 100)], []⟩
  (.act ⟨some 103, (some (99, false)), .call 22 [(.t 102)], []⟩
  (.pre [⟨some 104, (some (99, false)), .bin .neq (.t 101) (.t 103), []⟩,
    ⟨some 105, none, .pick (.t 99) (.c (.bool true)) (.t 104), []⟩,
    ⟨some 106, none, .mov (.t 105), []⟩,
    ⟨some 107, (some (106, false)), .mov (.t 11), []⟩,
    ⟨some 109, (some (106, false)), .mov (.t 12), []⟩]
  (.act ⟨some 108, (some (106, false)), .call 16 [(.t 107)], []⟩
  (.act ⟨some 110, (some (106, false)), .call 16 [(.t 109)], []⟩
  (.pre [⟨some 111, (some (106, false)), .bin .neq (.t 108) (.t 110), []⟩,
    ⟨some 112, none, .pick (.t 106) (.c (.bool true)) (.t 111), []⟩]
  .done)))))))))))))))))))
  fn6u6))))
  fn6u7)
def fn6u9 : Cd := (.seq (.region [⟨some 50, none, .bin .lss (.t 49) (.c (.int .i64 2)), []⟩])
  (.seq (.cond (.t 50) .skip
  (.exit 2))
  fn6u8))
def fn6u10 : Cd := (.seq (.region [⟨some 114, none, .call 13 [], []⟩,
    ⟨some 4, none, .mov (.t 114), []⟩])
  .ret)
def fn6u11 : Cd := (.seq (.seq (.region [⟨some 49, none, .mov (.c (.int .i64 0)), []⟩])
  (.block 2 (.loop fn6u9)))
  fn6u10)
def fn6u12 : Cd := (.seq (.region [⟨some 22, none, .call 14 [], []⟩,
    ⟨some 23, none, .call 14 [], []⟩,
    ⟨some 24, none, .call 14 [], []⟩,
    ⟨some 5, none, .mov (.t 22), []⟩,
    ⟨some 6, none, .mov (.t 23), []⟩,
    ⟨some 7, none, .mov (.t 24), []⟩])
  (.seq (.seq (.region [⟨some 25, none, .mov (.t 0), []⟩,
    ⟨some 26, none, .len (.t 25), []⟩,
    ⟨some 27, none, .mov (.c (.int .i64 0)), []⟩])
  (.block 0 (.loop fn6u5)))
  fn6u11))
def fn6 : Fn0 := ⟨2, (.seq (.region [⟨some 4, none, .mov (.c (.bool false)), []⟩])
  (.seq (.seq (.region [⟨some 13, none, .mov (.t 0), []⟩,
    ⟨some 14, none, .call 12 [(.t 13)], []⟩,
    ⟨some 15, none, .un .not (.t 14), []⟩,
    ⟨some 16, none, .mov (.t 15), []⟩,
    ⟨some 17, (some (16, false)), .mov (.t 1), []⟩,
    ⟨some 18, (some (16, false)), .call 12 [(.t 17)], []⟩,
    ⟨some 19, (some (16, false)), .un .not (.t 18), []⟩,
    ⟨some 20, none, .pick (.t 16) (.c (.bool true)) (.t 19), []⟩])
  fn6u1)
  fn6u12)),
  [.tmp 4]⟩
theorem fn6uis : cFn Tryd.prog 6 = some fn6 := by kernel_rfl

/- flume/flumelaw12.few -/
def fn12u1 : Cd := (.cond (.t 16) .skip
  (.exit 0))
def fn12u2 : Cd := (.seq (.block 1 (.region [⟨some 19, none, .mov (.t 3), []⟩,
    ⟨some 20, none, .mov (.t 0), []⟩,
    ⟨some 21, none, .mov (.t 4), []⟩,
    ⟨some 22, none, .iaddr 5 (.t 20) (.t 21), []⟩,
    ⟨some 23, none, .faddr (.t 22) 3, []⟩,
    ⟨some 24, none, .load false 1 (.t 23), []⟩,
    ⟨some 25, none, .len (.t 24), []⟩,
    ⟨some 26, none, .minmax false (.t 25) (.c (.int .i64 32768)), []⟩,
    ⟨some 27, none, .bin .add (.t 19) (.t 26), []⟩,
    ⟨some 3, none, .mov (.t 27), []⟩]))
  (.region [⟨some 17, none, .mov (.t 4), []⟩,
    ⟨some 18, none, .bin .add (.t 17) (.c (.int .i64 1)), []⟩,
    ⟨some 4, none, .mov (.t 18), []⟩]))
def fn12u3 : Cd := (.seq (.seq (.region [⟨some 5, none, .mov (.t 4), []⟩,
    ⟨some 6, none, .mov (.t 0), []⟩,
    ⟨some 7, none, .len (.t 6), []⟩,
    ⟨some 8, none, .bin .lss (.t 5) (.t 7), []⟩,
    ⟨some 9, none, .mov (.t 8), []⟩,
    ⟨some 10, (some (9, true)), .mov (.t 4), []⟩,
    ⟨some 11, (some (9, true)), .bin .leq (.t 10) (.c (.int .i64 400)), []⟩,
    ⟨some 12, none, .pick (.t 9) (.t 11) (.c (.bool false)), []⟩,
    ⟨some 13, none, .mov (.t 12), []⟩,
    ⟨some 14, (some (13, true)), .mov (.t 3), []⟩,
    ⟨some 15, (some (13, true)), .bin .leq (.t 14) (.c (.int .i64 32768)), []⟩,
    ⟨some 16, none, .pick (.t 13) (.t 15) (.c (.bool false)), []⟩])
  fn12u1)
  fn12u2)
def fn12u4 : Cd := (.seq (.region [⟨some 28, none, .mov (.t 0), []⟩,
    ⟨some 29, none, .len (.t 28), []⟩,
    ⟨some 30, none, .bin .leq (.t 29) (.c (.int .i64 400)), []⟩,
    ⟨some 31, none, .mov (.t 30), []⟩,
    ⟨some 32, (some (31, true)), .mov (.t 3), []⟩,
    ⟨some 33, (some (31, true)), .bin .leq (.t 32) (.c (.int .i64 32768)), []⟩,
    ⟨some 34, none, .pick (.t 31) (.t 33) (.c (.bool false)), []⟩,
    ⟨some 2, none, .mov (.t 34), []⟩])
  .ret)
def fn12 : Fn0 := ⟨1, (.seq (.region [⟨some 2, none, .mov (.c (.bool false)), []⟩])
  (.seq (.region [⟨some 3, none, .mov (.c (.int .i64 0)), []⟩])
  (.seq (.seq (.region [⟨some 4, none, .mov (.c (.int .i64 0)), []⟩])
  (.block 0 (.loop fn12u3)))
  fn12u4))),
  [.tmp 2]⟩
theorem fn12uis : cFn Tryd.prog 12 = some fn12 := by kernel_rfl

/- flume/flumelaw12.awake -/
def fn13u1 : Cd := (.cond (.t 25) (.seq (.region [⟨some 0, none, .mov (.c (.bool false)), []⟩])
  .ret)
  .skip)
def fn13u2 : Cd := (.seq (.region [⟨some 26, none, .mov (.t 1), []⟩,
    ⟨some 27, none, .call 51 [(.t 26), (.c (.int .i64 7))], []⟩])
  (.seq (.region [⟨some 28, none, .mov (.t 1), []⟩,
    ⟨some 29, none, .mov (.t 3), []⟩,
    ⟨some 30, none, .call 52 [(.t 28), (.t 29)], []⟩])
  (.seq (.region [⟨some 31, none, .mov (.t 3), []⟩,
    ⟨some 32, none, .mov (.t 1), []⟩,
    ⟨some 33, none, .call 52 [(.t 31), (.t 32)], []⟩])
  (.seq (.region [⟨some 34, none, .mov (.t 1), []⟩,
    ⟨some 35, none, .mov (.t 3), []⟩,
    ⟨some 36, none, .call 52 [(.t 34), (.t 35)], []⟩])
  (.seq (.region [⟨some 37, none, .mov (.t 1), []⟩,
    ⟨some 38, none, .bslice 5 1 (.int .u8 0) 1 [(0, (.c (.int .u8 120)))], []⟩,
    ⟨some 39, none, .still (.t 38), []⟩,
    ⟨some 40, none, .call 50 [(.t 37), (.t 39)], []⟩,
    ⟨some 5, none, .mov (.t 40), []⟩])
  (.seq (.region [⟨some 41, none, .mov (.t 1), []⟩,
    ⟨some 42, none, .mov (.t 3), []⟩,
    ⟨some 43, none, .call 52 [(.t 41), (.t 42)], []⟩,
    ⟨some 6, none, .mov (.t 43), []⟩])
  (.seq (.region [⟨some 44, none, .mov (.t 3), []⟩,
    ⟨some 45, none, .mov (.t 1), []⟩,
    ⟨some 46, none, .call 52 [(.t 44), (.t 45)], []⟩])
  (.seq (.region [⟨some 47, none, .mov (.t 1), []⟩,
    ⟨some 48, none, .call 17 [(.t 47)], []⟩,
    ⟨some 49, none, .mov (.t 48), []⟩,
    ⟨some 50, (some (49, true)), .mov (.t 3), []⟩,
    ⟨some 51, (some (49, true)), .call 17 [(.t 50)], []⟩,
    ⟨some 52, none, .pick (.t 49) (.t 51) (.c (.bool false)), []⟩,
    ⟨some 53, none, .mov (.t 52), []⟩,
    ⟨some 54, (some (53, true)), .mov (.t 5), []⟩,
    ⟨some 55, (some (53, true)), .bin .eql (.t 54) (.c (.int .i64 0)), []⟩,
    ⟨some 56, none, .pick (.t 53) (.t 55) (.c (.bool false)), []⟩,
    ⟨some 57, none, .mov (.t 56), []⟩,
    ⟨some 58, (some (57, true)), .mov (.t 6), []⟩,
    ⟨some 59, (some (57, true)), .len (.t 58), []⟩,
    ⟨some 60, (some (57, true)), .bin .eql (.t 59) (.c (.int .i64 1)), []⟩,
    ⟨some 61, none, .pick (.t 57) (.t 60) (.c (.bool false)), []⟩,
    ⟨some 62, none, .mov (.t 61), []⟩,
    ⟨some 63, (some (62, true)), .mov (.t 6), []⟩,
    ⟨some 64, (some (62, true)), .iaddr 1 (.t 63) (.c (.int .i64 0)), []⟩,
    ⟨some 65, (some (62, true)), .load false 1 (.t 64), []⟩,
    ⟨some 66, (some (62, true)), .b2s (.t 65), []⟩,
    ⟨some 67, (some (62, true)), .bin .eql (.t 66) (.c (.str ⟨#[120]⟩)), []⟩,
    ⟨some 68, none, .pick (.t 62) (.t 67) (.c (.bool false)), []⟩,
    ⟨some 69, none, .mov (.t 68), []⟩,
    ⟨some 70, (some (69, true)), .mov (.t 1), []⟩,
    ⟨some 71, (some (69, true)), .call 16 [(.t 70)], []⟩,
    ⟨some 72, (some (69, true)), .bin .eql (.t 71) (.c (.int .i64 0)), []⟩,
    ⟨some 73, none, .pick (.t 69) (.t 72) (.c (.bool false)), []⟩,
    ⟨some 74, none, .mov (.t 73), []⟩,
    ⟨some 75, (some (74, true)), .mov (.t 1), []⟩,
    ⟨some 76, (some (74, true)), .call 19 [(.t 75)], []⟩,
    ⟨some 77, (some (74, true)), .bin .eql (.t 76) (.c (.int .i64 7)), []⟩,
    ⟨some 78, none, .pick (.t 74) (.t 77) (.c (.bool false)), []⟩,
    ⟨some 0, none, .mov (.t 78), []⟩])
  .ret))))))))
def fn13 : Fn0 := ⟨0, (.seq (.region [⟨some 0, none, .mov (.c (.bool false)), []⟩])
  (.seq (.region [⟨some 8, none, .call 49 [(.c (.int .i64 5))], []⟩,
    ⟨some 7, none, .mov (.t 8), []⟩,
    ⟨some 9, none, .extract (.t 7) 0, []⟩,
    ⟨some 10, none, .extract (.t 7) 1, []⟩,
    ⟨some 1, none, .mov (.t 9), []⟩,
    ⟨some 2, none, .mov (.t 10), []⟩])
  (.seq (.region [⟨some 12, none, .call 49 [(.c (.int .i64 7))], []⟩,
    ⟨some 11, none, .mov (.t 12), []⟩,
    ⟨some 13, none, .extract (.t 11) 0, []⟩,
    ⟨some 14, none, .extract (.t 11) 1, []⟩,
    ⟨some 3, none, .mov (.t 13), []⟩,
    ⟨some 4, none, .mov (.t 14), []⟩])
  (.seq (.seq (.region [⟨some 15, none, .mov (.t 2), []⟩,
    ⟨some 16, none, .bin .neq (.t 15) (.c (.int .i64 0)), []⟩,
    ⟨some 17, none, .mov (.t 16), []⟩,
    ⟨some 18, (some (17, false)), .mov (.t 4), []⟩,
    ⟨some 19, (some (17, false)), .bin .neq (.t 18) (.c (.int .i64 0)), []⟩,
    ⟨some 20, none, .pick (.t 17) (.c (.bool true)) (.t 19), []⟩,
    ⟨some 21, none, .mov (.t 20), []⟩,
    ⟨some 22, (some (21, false)), .mov (.t 1), []⟩,
    ⟨some 23, (some (21, false)), .call 50 [(.t 22), (.c .nil)], []⟩,
    ⟨some 24, (some (21, false)), .bin .neq (.t 23) (.c (.int .i64 121)), []⟩,
    ⟨some 25, none, .pick (.t 21) (.c (.bool true)) (.t 24), []⟩])
  fn13u1)
  fn13u2)))),
  [.tmp 0]⟩
theorem fn13uis : cFn Tryd.prog 13 = some fn13 := by kernel_rfl

/- flume/flumelaw12.begun -/
def fn14 : Fn0 := ⟨0, (.seq (.region [⟨some 0, none, .mov (.c .nilp), []⟩])
  (.seq (.region [⟨some 6, none, .call 49 [(.c (.int .i64 1000))], []⟩,
    ⟨some 5, none, .mov (.t 6), []⟩,
    ⟨some 7, none, .extract (.t 5) 0, []⟩,
    ⟨some 8, none, .extract (.t 5) 1, []⟩,
    ⟨some 1, none, .mov (.t 7), []⟩,
    ⟨some 2, none, .mov (.t 8), []⟩])
  (.seq (.region [⟨some 10, none, .call 49 [(.c (.int .i64 5000))], []⟩,
    ⟨some 9, none, .mov (.t 10), []⟩,
    ⟨some 11, none, .extract (.t 9) 0, []⟩,
    ⟨some 12, none, .extract (.t 9) 1, []⟩,
    ⟨some 3, none, .mov (.t 11), []⟩,
    ⟨some 4, none, .mov (.t 12), []⟩])
  (.seq (.region [⟨some 13, none, .mov (.t 1), []⟩,
    ⟨some 14, none, .mov (.t 3), []⟩,
    ⟨some 15, none, .build [.nilp, .nilp] [(0, 1, (.t 13)), (1, 1, (.t 14))], []⟩,
    ⟨some 16, none, .mkmap, []⟩,
    ⟨some 17, none, .mkmap, []⟩,
    ⟨some 18, none, .build [.nilp, .nilp, .nil, .nil, .nilm, .nilm] [(0, 2, (.t 15)), (4, 1, (.t 16)), (5, 1, (.t 17))], []⟩,
    ⟨some 19, none, .box 37 6 (.t 18), []⟩,
    ⟨some 0, none, .mov (.t 19), []⟩])
  .ret)))),
  [.tmp 0]⟩
theorem fn14uis : cFn Tryd.prog 14 = some fn14 := by kernel_rfl

/- (*flume/flumelaw12.pair).does -/
def fn15u1 : Cd := (.cond (.t 96) (.region [⟨some 99, none, .mov (.t 6), []⟩,
    ⟨some 100, none, .call 54 [(.t 99)], []⟩])
  (.seq (.region [⟨some 102, none, .bin .eql (.t 28) (.c (.int .i64 7)), []⟩,
    ⟨some 101, none, .mov (.t 102), []⟩])
  (.cond (.t 101) (.seq (.region [⟨some 104, none, .mov (.t 6), []⟩,
    ⟨some 105, none, .call 20 [(.t 104)], []⟩,
    ⟨some 106, none, .bin .add (.t 105) (.c (.int .i64 100)), []⟩,
    ⟨some 107, none, .call 49 [(.t 106)], []⟩,
    ⟨some 103, none, .mov (.t 107), []⟩,
    ⟨some 108, none, .extract (.t 103) 0, []⟩,
    ⟨some 109, none, .extract (.t 103) 1, []⟩,
    ⟨some 10, none, .mov (.t 108), []⟩,
    ⟨some 11, none, .mov (.t 109), []⟩])
  (.seq (.region [⟨some 110, none, .mov (.t 0), []⟩,
    ⟨some 111, none, .mov (.t 5), []⟩,
    ⟨some 112, none, .mov (.t 10), []⟩,
    ⟨some 113, none, .nilck (.t 110), []⟩,
    ⟨some 114, none, .faddr (.t 113) 0, []⟩,
    ⟨some 115, none, .iaddrA 2 1 (.t 114) (.t 111), []⟩,
    ⟨none, none, .store 1 (.t 115) (.t 112), []⟩])
  (.region [⟨some 116, none, .mov (.t 11), []⟩,
    ⟨some 117, none, .bin .eql (.t 116) (.c (.int .i64 0)), []⟩,
    ⟨some 7, none, .mov (.t 117), []⟩])))
  (.seq (.region [⟨some 119, none, .bin .eql (.t 28) (.c (.int .i64 8)), []⟩,
    ⟨some 118, none, .mov (.t 119), []⟩])
  (.cond (.t 118) (.region [⟨some 120, none, .mov (.t 6), []⟩,
    ⟨some 121, none, .mov (.t 0), []⟩,
    ⟨some 122, none, .mov (.t 5), []⟩,
    ⟨some 123, none, .bin .sub (.c (.int .i64 1)) (.t 122), []⟩,
    ⟨some 124, none, .nilck (.t 121), []⟩,
    ⟨some 125, none, .faddr (.t 124) 0, []⟩,
    ⟨some 126, none, .iaddrA 2 1 (.t 125) (.t 123), []⟩,
    ⟨some 127, none, .load false 1 (.t 126), []⟩,
    ⟨some 128, none, .call 20 [(.t 127)], []⟩,
    ⟨some 129, none, .call 51 [(.t 120), (.t 128)], []⟩])
  (.seq (.region [⟨some 29, none, .mov (.t 0), []⟩,
    ⟨some 30, none, .mov (.t 5), []⟩,
    ⟨some 31, none, .nilck (.t 29), []⟩,
    ⟨some 32, none, .faddr (.t 31) 2, []⟩,
    ⟨some 33, none, .iaddrA 2 1 (.t 32) (.t 30), []⟩,
    ⟨some 34, none, .load false 1 (.t 33), []⟩,
    ⟨some 35, none, .len (.t 34), []⟩,
    ⟨some 12, none, .mov (.t 35), []⟩])
  (.seq (.region [⟨some 36, none, .mov (.t 12), []⟩,
    ⟨some 37, none, .bin .gtr (.t 36) (.c (.int .i64 0)), []⟩])
  (.cond (.t 37) (.seq (.region [⟨some 38, none, .faddr (.t 3) 2, []⟩,
    ⟨some 39, none, .load false 1 (.t 38), []⟩,
    ⟨some 40, none, .conv .u64 (.t 39), []⟩,
    ⟨some 41, none, .mov (.t 12), []⟩,
    ⟨some 42, none, .conv .u64 (.t 41), []⟩,
    ⟨some 43, none, .bin .rem (.t 40) (.t 42), []⟩,
    ⟨some 44, none, .conv .i64 (.t 43), []⟩,
    ⟨some 13, none, .mov (.t 44), []⟩])
  (.seq (.region [⟨some 45, none, .mov (.t 8), []⟩,
    ⟨some 46, none, .bin .eql (.t 45) (.c (.int .i64 6)), []⟩])
  (.cond (.t 46) (.draw (.pre [⟨some 47, none, .mov (.t 0), []⟩,
    ⟨some 48, none, .mov (.t 5), []⟩,
    ⟨some 49, none, .mov (.t 0), []⟩,
    ⟨some 50, none, .mov (.t 5), []⟩,
    ⟨some 51, none, .nilck (.t 49), []⟩,
    ⟨some 52, none, .faddr (.t 51) 2, []⟩,
    ⟨some 53, none, .iaddrA 2 1 (.t 52) (.t 50), []⟩,
    ⟨some 54, none, .load false 1 (.t 53), []⟩,
    ⟨some 56, none, .mov (.t 13), []⟩,
    ⟨some 57, none, .mov (.t 13), []⟩,
    ⟨some 58, none, .bin .add (.t 57) (.c (.int .i64 1)), []⟩,
    ⟨some 60, none, .nilck (.t 47), []⟩,
    ⟨some 61, none, .faddr (.t 60) 2, []⟩]
  (.act ⟨some 55, none, .call 56 [(.t 54)], []⟩
  (.act ⟨some 59, none, .call 55 [(.t 55), (.t 56), (.t 58)], []⟩
  (.pre [⟨some 62, none, .iaddrA 2 1 (.t 61) (.t 48), []⟩]
  (.act ⟨none, none, .store 1 (.t 62) (.t 59), []⟩
  .done))))))
  (.region [⟨some 63, none, .mov (.t 0), []⟩,
    ⟨some 64, none, .mov (.t 5), []⟩,
    ⟨some 65, none, .mov (.t 13), []⟩,
    ⟨some 66, none, .faddr (.t 3) 4, []⟩,
    ⟨some 67, none, .load false 1 (.t 66), []⟩,
    ⟨some 68, none, .call 57 [(.t 63), (.t 64), (.t 65), (.t 67)], []⟩,
    ⟨some 7, none, .mov (.t 68), []⟩]))))
  .skip))))))))
def fn15u2 : Cd := (.seq (.region [⟨some 130, none, .mov (.t 0), []⟩,
    ⟨some 131, none, .call 58 [(.t 130)], []⟩])
  (.seq (.region [⟨some 132, none, .mov (.t 7), []⟩,
    ⟨some 4, none, .mov (.t 132), []⟩])
  .ret))
def fn15 : Fn0 := ⟨2, (.seq (.region [⟨some 3, none, .box 29 5 (.t 1), []⟩,
    ⟨some 4, none, .mov (.c (.bool false)), []⟩])
  (.seq (.region [⟨some 14, none, .faddr (.t 3) 1, []⟩,
    ⟨some 15, none, .load false 1 (.t 14), []⟩,
    ⟨some 16, none, .bin .and (.t 15) (.c (.int .i64 1)), []⟩,
    ⟨some 5, none, .mov (.t 16), []⟩])
  (.seq (.region [⟨some 17, none, .mov (.t 0), []⟩,
    ⟨some 18, none, .mov (.t 5), []⟩,
    ⟨some 19, none, .nilck (.t 17), []⟩,
    ⟨some 20, none, .faddr (.t 19) 0, []⟩,
    ⟨some 21, none, .iaddrA 2 1 (.t 20) (.t 18), []⟩,
    ⟨some 22, none, .load false 1 (.t 21), []⟩,
    ⟨some 6, none, .mov (.t 22), []⟩])
  (.seq (.region [⟨some 7, none, .mov (.c (.bool true)), []⟩])
  (.seq (.seq (.region [⟨some 23, none, .faddr (.t 3) 0, []⟩,
    ⟨some 24, none, .load false 1 (.t 23), []⟩,
    ⟨some 25, none, .conv .u64 (.t 24), []⟩,
    ⟨some 26, none, .bin .rem (.t 25) (.c (.int .u64 9)), []⟩,
    ⟨some 27, none, .conv .i64 (.t 26), []⟩,
    ⟨some 8, none, .mov (.t 27), []⟩])
  (.seq (.region [⟨some 28, none, .mov (.t 8), []⟩])
  (.block 0 (.seq (.region [⟨some 70, none, .bin .eql (.t 28) (.c (.int .i64 3)), []⟩,
    ⟨some 69, none, .mov (.t 70), []⟩])
  (.cond (.t 69) (.seq (.region [⟨some 71, none, .mov (.t 6), []⟩,
    ⟨some 72, none, .faddr (.t 3) 3, []⟩,
    ⟨some 73, none, .load false 1 (.t 72), []⟩,
    ⟨some 74, none, .call 50 [(.t 71), (.t 73)], []⟩,
    ⟨some 75, none, .bin .eql (.t 74) (.c (.int .i64 0)), []⟩])
  (.cond (.t 75) (.seq (.region [⟨some 76, none, .mov (.t 6), []⟩,
    ⟨some 77, none, .call 20 [(.t 76)], []⟩,
    ⟨some 78, none, .mov (.t 6), []⟩,
    ⟨some 79, none, .call 19 [(.t 78)], []⟩,
    ⟨some 80, none, .mov (.t 5), []⟩,
    ⟨some 81, none, .bin .sub (.c (.int .i64 1)) (.t 80), []⟩,
    ⟨some 82, none, .build [(.int .i64 0), (.int .i64 0), (.int .i64 0)] [(0, 1, (.t 77)), (1, 1, (.t 79)), (2, 1, (.t 81))], []⟩,
    ⟨some 9, none, .box 39 3 (.c (.agg [(.int .i64 0), (.int .i64 0), (.int .i64 0)])), []⟩,
    ⟨none, none, .store 3 (.t 9) (.t 82), []⟩])
  (.draw (.pre [⟨some 83, none, .mov (.t 0), []⟩,
    ⟨some 84, none, .nilck (.t 83), []⟩,
    ⟨some 85, none, .faddr (.t 84) 4, []⟩,
    ⟨some 86, none, .load false 1 (.t 85), []⟩,
    ⟨some 87, none, .load true 3 (.t 9), []⟩,
    ⟨some 89, none, .faddr (.t 3) 3, []⟩,
    ⟨some 90, none, .load false 1 (.t 89), []⟩]
  (.act ⟨some 91, none, .call 53 [(.t 90)], [(none, 86, .load false 1 (.t 85)), (none, 87, .load true 3 (.t 9))]⟩
  (.act ⟨some 92, none, .bslice 27 1 .nil 1 [(0, (.t 91))], [(none, 86, .load false 1 (.t 85)), (none, 87, .load true 3 (.t 9))]⟩
  (.act ⟨some 93, none, .mentry (some 3) .nil (.t 86) (.t 87), []⟩
  (.pre [⟨some 88, none, .extract (.t 93) 0, []⟩,
    ⟨some 95, none, .extract (.t 93) 1, []⟩]
  (.act ⟨some 94, none, .append 27 1 24 (.t 88) (.t 92), []⟩
  (.act ⟨none, none, .estore (.t 86) (.t 95) (.t 94), []⟩
  .done)))))))))
  .skip))
  (.seq (.seq (.region [⟨some 97, none, .bin .eql (.t 28) (.c (.int .i64 4)), []⟩,
    ⟨some 96, none, .mov (.t 97), []⟩])
  (.cond (.t 96) .skip
  (.region [⟨some 98, none, .bin .eql (.t 28) (.c (.int .i64 5)), []⟩,
    ⟨some 96, none, .mov (.t 98), []⟩])))
  fn15u1))))))
  fn15u2))))),
  [.tmp 4]⟩
theorem fn15uis : cFn Tryd.prog 15 = some fn15 := by kernel_rfl

/- (*flume/tunnel.Tunnel).Waiting -/
def fn16u1 : Cd := (.seq (.draw (.pre [⟨some 6, none, .mov (.t 0), []⟩,
    ⟨some 7, none, .nilck (.t 6), []⟩,
    ⟨some 8, none, .faddr (.t 7) 0, []⟩,
    ⟨some 9, none, .faddr (.t 8) 4, []⟩,
    ⟨some 10, none, .load false 1 (.t 9), []⟩,
    ⟨some 11, none, .len (.t 10), []⟩,
    ⟨some 12, none, .mov (.t 0), []⟩,
    ⟨some 13, none, .nilck (.t 12), []⟩,
    ⟨some 14, none, .faddr (.t 13) 0, []⟩,
    ⟨some 15, none, .faddr (.t 14) 3, []⟩,
    ⟨some 16, none, .load false 1 (.t 15), []⟩,
    ⟨some 17, none, .len (.t 16), []⟩,
    ⟨some 18, none, .bin .add (.t 11) (.t 17), []⟩,
    ⟨some 2, none, .mov (.t 18), []⟩]
  .done))
  .ret)
def fn16 : Fn0 := ⟨1, (.seq (.region [⟨some 2, none, .mov (.c (.int .i64 0)), []⟩])
  (.seq (.seq (.region [⟨some 3, none, .mov (.t 0), []⟩,
    ⟨some 4, none, .call 59 [(.t 3)], []⟩,
    ⟨some 5, none, .un .not (.t 4), []⟩])
  (.cond (.t 5) (.seq (.region [⟨some 2, none, .mov (.c (.int .i64 0)), []⟩])
  .ret)
  .skip))
  fn16u1)),
  [.tmp 2]⟩
theorem fn16uis : cFn Tryd.prog 16 = some fn16 := by kernel_rfl

/- (*flume/tunnel.Tunnel).Up -/
def fn17 : Fn0 := ⟨1, (.seq (.region [⟨some 2, none, .mov (.c (.bool false)), []⟩])
  (.seq (.region [⟨some 3, none, .mov (.t 0), []⟩,
    ⟨some 4, none, .call 59 [(.t 3)], []⟩,
    ⟨some 5, none, .mov (.t 4), []⟩,
    ⟨some 6, (some (5, true)), .mov (.t 0), []⟩,
    ⟨some 7, (some (5, true)), .nilck (.t 6), []⟩,
    ⟨some 8, (some (5, true)), .faddr (.t 7) 0, []⟩,
    ⟨some 9, (some (5, true)), .faddr (.t 8) 0, []⟩,
    ⟨some 10, (some (5, true)), .load false 1 (.t 9), []⟩,
    ⟨some 11, none, .pick (.t 5) (.t 10) (.c (.bool false)), []⟩,
    ⟨some 2, none, .mov (.t 11), []⟩])
  .ret)),
  [.tmp 2]⟩
theorem fn17uis : cFn Tryd.prog 17 = some fn17 := by kernel_rfl

/- (*flume/tunnel.Tunnel).Room -/
def fn18u1 : Cd := (.seq (.draw (.pre [⟨some 6, none, .mov (.t 0), []⟩,
    ⟨some 7, none, .nilck (.t 6), []⟩,
    ⟨some 8, none, .faddr (.t 7) 0, []⟩,
    ⟨some 9, none, .faddr (.t 8) 4, []⟩,
    ⟨some 10, none, .load false 1 (.t 9), []⟩,
    ⟨some 11, none, .len (.t 10), []⟩,
    ⟨some 12, none, .bin .sub (.c (.int .i64 64)) (.t 11), []⟩,
    ⟨some 13, none, .mov (.t 0), []⟩,
    ⟨some 14, none, .nilck (.t 13), []⟩,
    ⟨some 15, none, .faddr (.t 14) 0, []⟩,
    ⟨some 16, none, .faddr (.t 15) 3, []⟩,
    ⟨some 17, none, .load false 1 (.t 16), []⟩,
    ⟨some 18, none, .len (.t 17), []⟩,
    ⟨some 19, none, .bin .sub (.t 12) (.t 18), []⟩,
    ⟨some 2, none, .mov (.t 19), []⟩]
  .done))
  .ret)
def fn18 : Fn0 := ⟨1, (.seq (.region [⟨some 2, none, .mov (.c (.int .i64 0)), []⟩])
  (.seq (.seq (.region [⟨some 3, none, .mov (.t 0), []⟩,
    ⟨some 4, none, .call 17 [(.t 3)], []⟩,
    ⟨some 5, none, .un .not (.t 4), []⟩])
  (.cond (.t 5) (.seq (.region [⟨some 2, none, .mov (.c (.int .i64 0)), []⟩])
  .ret)
  .skip))
  fn18u1)),
  [.tmp 2]⟩
theorem fn18uis : cFn Tryd.prog 18 = some fn18 := by kernel_rfl

/- (*flume/tunnel.Tunnel).You -/
def fn19u1 : Cd := (.seq (.region [⟨some 6, none, .mov (.t 0), []⟩,
    ⟨some 7, none, .nilck (.t 6), []⟩,
    ⟨some 8, none, .faddr (.t 7) 8, []⟩,
    ⟨some 9, none, .load false 1 (.t 8), []⟩,
    ⟨some 2, none, .mov (.t 9), []⟩])
  .ret)
def fn19 : Fn0 := ⟨1, (.seq (.region [⟨some 2, none, .mov (.c (.int .i64 0)), []⟩])
  (.seq (.seq (.region [⟨some 3, none, .mov (.t 0), []⟩,
    ⟨some 4, none, .call 59 [(.t 3)], []⟩,
    ⟨some 5, none, .un .not (.t 4), []⟩])
  (.cond (.t 5) (.seq (.region [⟨some 2, none, .mov (.c (.int .i64 0)), []⟩])
  .ret)
  .skip))
  fn19u1)),
  [.tmp 2]⟩
theorem fn19uis : cFn Tryd.prog 19 = some fn19 := by kernel_rfl

/- (*flume/tunnel.Tunnel).Me -/
def fn20u1 : Cd := (.seq (.region [⟨some 6, none, .mov (.t 0), []⟩,
    ⟨some 7, none, .nilck (.t 6), []⟩,
    ⟨some 8, none, .faddr (.t 7) 7, []⟩,
    ⟨some 9, none, .load false 1 (.t 8), []⟩,
    ⟨some 2, none, .mov (.t 9), []⟩])
  .ret)
def fn20 : Fn0 := ⟨1, (.seq (.region [⟨some 2, none, .mov (.c (.int .i64 0)), []⟩])
  (.seq (.seq (.region [⟨some 3, none, .mov (.t 0), []⟩,
    ⟨some 4, none, .call 59 [(.t 3)], []⟩,
    ⟨some 5, none, .un .not (.t 4), []⟩])
  (.cond (.t 5) (.seq (.region [⟨some 2, none, .mov (.c (.int .i64 0)), []⟩])
  .ret)
  .skip))
  fn20u1)),
  [.tmp 2]⟩
theorem fn20uis : cFn Tryd.prog 20 = some fn20 := by kernel_rfl

/- flume/flumelaw12.rows -/
def fn21 : Fn0 := ⟨2, (.seq (.region [⟨some 4, none, .mov (.c (.bool false)), []⟩])
  (.seq (.region [⟨some 5, none, .mov (.t 0), []⟩,
    ⟨some 6, none, .mov (.t 1), []⟩,
    ⟨some 7, none, .call 60 [(.t 5), (.t 6), (.f 61)], []⟩,
    ⟨some 4, none, .mov (.t 7), []⟩])
  .ret)),
  [.tmp 4]⟩
theorem fn21uis : cFn Tryd.prog 21 = some fn21 := by kernel_rfl

/- (*flume/tunnel.Tunnel).Epoch -/
def fn22u1 : Cd := (.seq (.region [⟨some 6, none, .mov (.t 0), []⟩,
    ⟨some 7, none, .nilck (.t 6), []⟩,
    ⟨some 8, none, .faddr (.t 7) 9, []⟩,
    ⟨some 9, none, .load false 1 (.t 8), []⟩,
    ⟨some 2, none, .mov (.t 9), []⟩])
  .ret)
def fn22 : Fn0 := ⟨1, (.seq (.region [⟨some 2, none, .mov (.c (.int .i64 0)), []⟩])
  (.seq (.seq (.region [⟨some 3, none, .mov (.t 0), []⟩,
    ⟨some 4, none, .call 59 [(.t 3)], []⟩,
    ⟨some 5, none, .un .not (.t 4), []⟩])
  (.cond (.t 5) (.seq (.region [⟨some 2, none, .mov (.c (.int .i64 0)), []⟩])
  .ret)
  .skip))
  fn22u1)),
  [.tmp 2]⟩
theorem fn22uis : cFn Tryd.prog 22 = some fn22 := by kernel_rfl

/- flume/tunnel.New -/
def fn49u1 : Cd := (.cond (.t 9) (.seq (.region [⟨some 2, none, .mov (.c .nilp), []⟩,
    ⟨some 3, none, .mov (.c (.int .i64 1)), []⟩])
  .ret)
  .skip)
def fn49u2 : Cd := (.seq (.region [⟨some 10, none, .mov (.t 0), []⟩,
    ⟨some 11, none, .build [(.bool false), (.int .i64 0), (.int .i64 0), .nil, .nil, (.int .i64 0), .nilm, (.int .i64 0), (.int .i64 0), (.int .i64 0), (.int .i64 0), .nil] [(7, 1, (.t 10))], []⟩,
    ⟨some 12, none, .box 109 12 (.t 11), []⟩,
    ⟨some 2, none, .mov (.t 12), []⟩,
    ⟨some 3, none, .mov (.c (.int .i64 0)), []⟩])
  .ret)
def fn49 : Fn0 := ⟨1, (.seq (.region [⟨some 2, none, .mov (.c .nilp), []⟩,
    ⟨some 3, none, .mov (.c (.int .i64 0)), []⟩])
  (.seq (.seq (.region [⟨some 4, none, .mov (.t 0), []⟩,
    ⟨some 5, none, .bin .lss (.t 4) (.c (.int .i64 1)), []⟩,
    ⟨some 6, none, .mov (.t 5), []⟩,
    ⟨some 7, (some (6, false)), .mov (.t 0), []⟩,
    ⟨some 8, (some (6, false)), .bin .gtr (.t 7) (.c (.int .i64 1099511627776)), []⟩,
    ⟨some 9, none, .pick (.t 6) (.c (.bool true)) (.t 8), []⟩])
  fn49u1)
  fn49u2)),
  [.tmp 2, .tmp 3]⟩
theorem fn49uis : cFn Tryd.prog 49 = some fn49 := by kernel_rfl

/- (*flume/tunnel.Tunnel).Send -/
def fn50u1 : Cd := (.seq (.region [⟨some 24, none, .mov (.t 0), []⟩,
    ⟨some 25, none, .mov (.t 0), []⟩,
    ⟨some 26, none, .nilck (.t 25), []⟩,
    ⟨some 27, none, .faddr (.t 26) 0, []⟩,
    ⟨some 28, none, .faddr (.t 27) 4, []⟩,
    ⟨some 29, none, .load false 1 (.t 28), []⟩,
    ⟨some 30, none, .call 56 [(.t 29)], []⟩,
    ⟨some 31, none, .mov (.c .nil), []⟩,
    ⟨some 32, none, .mov (.t 1), []⟩,
    ⟨some 33, none, .append 5 1 1 (.t 31) (.t 32), []⟩,
    ⟨some 34, none, .bslice 27 1 .nil 1 [(0, (.t 33))], []⟩,
    ⟨some 35, none, .append 27 1 24 (.t 30) (.t 34), []⟩,
    ⟨some 36, none, .nilck (.t 24), []⟩,
    ⟨some 37, none, .faddr (.t 36) 0, []⟩,
    ⟨some 38, none, .faddr (.t 37) 4, []⟩,
    ⟨none, none, .store 1 (.t 38) (.t 35), []⟩])
  (.seq (.region [⟨some 39, none, .mov (.t 0), []⟩,
    ⟨some 40, none, .call 76 [(.t 39)], []⟩])
  (.seq (.region [⟨some 4, none, .mov (.c (.int .i64 0)), []⟩])
  .ret)))
def fn50 : Fn0 := ⟨2, (.seq (.region [⟨some 4, none, .mov (.c (.int .i64 0)), []⟩])
  (.seq (.block 0 (.seq (.region [⟨some 6, none, .mov (.t 0), []⟩,
    ⟨some 7, none, .call 59 [(.t 6)], []⟩,
    ⟨some 8, none, .un .not (.t 7), []⟩,
    ⟨some 5, none, .mov (.t 8), []⟩])
  (.cond (.t 5) (.seq (.region [⟨some 4, none, .mov (.c (.int .i64 6)), []⟩])
  .ret)
  (.seq (.region [⟨some 10, none, .mov (.t 0), []⟩,
    ⟨some 11, none, .nilck (.t 10), []⟩,
    ⟨some 12, none, .faddr (.t 11) 0, []⟩,
    ⟨some 13, none, .faddr (.t 12) 0, []⟩,
    ⟨some 14, none, .load false 1 (.t 13), []⟩,
    ⟨some 15, none, .un .not (.t 14), []⟩,
    ⟨some 9, none, .mov (.t 15), []⟩])
  (.cond (.t 9) (.seq (.region [⟨some 4, none, .mov (.c (.int .i64 121)), []⟩])
  .ret)
  (.seq (.region [⟨some 17, none, .mov (.t 1), []⟩,
    ⟨some 18, none, .len (.t 17), []⟩,
    ⟨some 19, none, .bin .gtr (.t 18) (.c (.int .i64 512)), []⟩,
    ⟨some 16, none, .mov (.t 19), []⟩])
  (.cond (.t 16) (.seq (.region [⟨some 4, none, .mov (.c (.int .i64 4)), []⟩])
  .ret)
  (.seq (.region [⟨some 21, none, .mov (.t 0), []⟩,
    ⟨some 22, none, .call 18 [(.t 21)], []⟩,
    ⟨some 23, none, .bin .lss (.t 22) (.c (.int .i64 1)), []⟩,
    ⟨some 20, none, .mov (.t 23), []⟩])
  (.cond (.t 20) (.seq (.region [⟨some 4, none, .mov (.c (.int .i64 7)), []⟩])
  .ret)
  .skip)))))))))
  fn50u1)),
  [.tmp 4]⟩
theorem fn50uis : cFn Tryd.prog 50 = some fn50 := by kernel_rfl

/- (*flume/tunnel.Tunnel).Hint -/
def fn51u1 : Cd := (.cond (.t 13) (.region [⟨some 14, none, .mov (.t 0), []⟩,
    ⟨some 15, none, .mov (.t 1), []⟩,
    ⟨some 16, none, .build [(.int .i64 0), (.int .i64 0), (.int .i64 0), (.int .i64 0), (.int .i64 0), (.int .i64 0), .nil] [(0, 1, (.c (.int .i64 1))), (2, 1, (.t 15))], []⟩,
    ⟨some 17, none, .call 77 [(.t 14), (.t 16)], []⟩])
  .skip)
def fn51 : Fn0 := ⟨2, (.seq (.region [⟨some 4, none, .mov (.t 0), []⟩,
    ⟨some 5, none, .call 59 [(.t 4)], []⟩,
    ⟨some 6, none, .mov (.t 5), []⟩,
    ⟨some 7, (some (6, true)), .mov (.t 1), []⟩,
    ⟨some 8, (some (6, true)), .bin .geq (.t 7) (.c (.int .i64 1)), []⟩,
    ⟨some 9, none, .pick (.t 6) (.t 8) (.c (.bool false)), []⟩,
    ⟨some 10, none, .mov (.t 9), []⟩,
    ⟨some 11, (some (10, true)), .mov (.t 1), []⟩,
    ⟨some 12, (some (10, true)), .bin .leq (.t 11) (.c (.int .i64 1099511627776)), []⟩,
    ⟨some 13, none, .pick (.t 10) (.t 12) (.c (.bool false)), []⟩])
  fn51u1),
  []⟩
theorem fn51uis : cFn Tryd.prog 51 = some fn51 := by kernel_rfl

/- flume/flumelaw12.carry -/
def fn52u1 : Cd := (.seq (.block 1 (.seq (.region [⟨some 15, none, .iaddr 1 (.t 11) (.t 13), []⟩,
    ⟨some 16, none, .load false 1 (.t 15), []⟩,
    ⟨some 7, none, .mov (.t 16), []⟩])
  (.seq (.region [⟨some 18, none, .mov (.t 1), []⟩,
    ⟨some 19, none, .mov (.t 7), []⟩,
    ⟨some 20, none, .call 79 [(.t 18), (.t 19)], []⟩,
    ⟨some 17, none, .mov (.t 20), []⟩,
    ⟨some 21, none, .extract (.t 17) 0, []⟩,
    ⟨some 22, none, .extract (.t 17) 1, []⟩,
    ⟨some 8, none, .mov (.t 21), []⟩,
    ⟨some 9, none, .mov (.t 22), []⟩])
  (.region [⟨some 23, none, .mov (.t 5), []⟩,
    ⟨some 24, none, .mov (.t 8), []⟩,
    ⟨some 25, none, .append 27 1 24 (.t 23) (.t 24), []⟩,
    ⟨some 5, none, .mov (.t 25), []⟩]))))
  (.region [⟨some 26, none, .bin .add (.t 13) (.c (.int .i64 1)), []⟩,
    ⟨some 13, none, .mov (.t 26), []⟩]))
def fn52u2 : Cd := (.seq (.region [⟨some 14, none, .bin .lss (.t 13) (.t 12), []⟩])
  (.seq (.cond (.t 14) .skip
  (.exit 0))
  fn52u1))
def fn52u3 : Cd := (.seq (.region [⟨some 27, none, .mov (.t 5), []⟩,
    ⟨some 4, none, .mov (.t 27), []⟩])
  .ret)
def fn52 : Fn0 := ⟨2, (.seq (.region [⟨some 4, none, .mov (.c .nil), []⟩])
  (.seq (.region [⟨some 5, none, .mov (.c .nil), []⟩])
  (.seq (.seq (.region [⟨some 10, none, .mov (.t 0), []⟩,
    ⟨some 11, none, .call 78 [(.t 10)], []⟩,
    ⟨some 12, none, .len (.t 11), []⟩,
    ⟨some 13, none, .mov (.c (.int .i64 0)), []⟩])
  (.block 0 (.loop fn52u2)))
  fn52u3))),
  [.tmp 4]⟩
theorem fn52uis : cFn Tryd.prog 52 = some fn52 := by kernel_rfl

/- slices.Clone[[]byte,byte] -/
def fn53u1 : Cd := (.seq (.region [⟨some 5, none, .mov (.c .nil), []⟩,
    ⟨some 6, none, .mov (.t 0), []⟩,
    ⟨some 7, none, .append 5 1 1 (.t 5) (.t 6), []⟩,
    ⟨some 2, none, .mov (.t 7), []⟩])
  .ret)
def fn53 : Fn0 := ⟨1, (.seq (.region [⟨some 2, none, .mov (.c .nil), []⟩])
  (.seq (.seq (.region [⟨some 3, none, .mov (.t 0), []⟩,
    ⟨some 4, none, .isnil false (.t 3), []⟩])
  (.cond (.t 4) (.seq (.region [⟨some 2, none, .mov (.c .nil), []⟩])
  .ret)
  .skip))
  fn53u1)),
  [.tmp 2]⟩
theorem fn53uis : cFn Tryd.prog 53 = some fn53 := by kernel_rfl

/- (*flume/tunnel.Tunnel).Tick -/
def fn54u1 : Cd := (.cond (.t 32) (.region [⟨some 33, none, .mov (.t 0), []⟩,
    ⟨some 34, none, .mov (.t 0), []⟩,
    ⟨some 35, none, .nilck (.t 34), []⟩,
    ⟨some 36, none, .faddr (.t 35) 8, []⟩,
    ⟨some 37, none, .load false 1 (.t 36), []⟩,
    ⟨some 38, none, .build [(.int .i64 0), (.int .i64 0), (.int .i64 0), (.int .i64 0), (.int .i64 0), (.int .i64 0), .nil] [(0, 1, (.c (.int .i64 1))), (2, 1, (.t 37))], []⟩,
    ⟨some 39, none, .call 77 [(.t 33), (.t 38)], []⟩])
  .skip)
def fn54u2 : Cd := (.region [⟨some 113, none, .bin .add (.t 78) (.c (.int .i64 1)), []⟩,
    ⟨some 78, none, .mov (.t 113), []⟩])
def fn54u3 : Cd := (.seq (.block 1 (.seq (.region [⟨some 80, none, .mov (.t 78), []⟩,
    ⟨some 3, none, .mov (.t 80), []⟩])
  (.seq (.region [⟨some 81, none, .mov (.t 2), []⟩,
    ⟨some 82, none, .mov (.t 3), []⟩,
    ⟨some 83, none, .iaddr 3 (.t 81) (.t 82), []⟩,
    ⟨some 84, none, .faddr (.t 83) 2, []⟩,
    ⟨some 85, none, .load false 1 (.t 84), []⟩,
    ⟨some 86, none, .bin .add (.t 85) (.c (.int .i64 1)), []⟩,
    ⟨some 87, none, .iaddr 3 (.t 81) (.t 82), []⟩,
    ⟨some 88, none, .faddr (.t 87) 2, []⟩,
    ⟨none, none, .store 1 (.t 88) (.t 86), []⟩])
  (.seq (.region [⟨some 89, none, .mov (.t 2), []⟩,
    ⟨some 90, none, .mov (.t 3), []⟩,
    ⟨some 91, none, .iaddr 3 (.t 89) (.t 90), []⟩,
    ⟨some 92, none, .faddr (.t 91) 2, []⟩,
    ⟨some 93, none, .load false 1 (.t 92), []⟩,
    ⟨some 94, none, .bin .rem (.t 93) (.c (.int .i64 4)), []⟩,
    ⟨some 95, none, .bin .eql (.t 94) (.c (.int .i64 0)), []⟩])
  (.cond (.t 95) (.draw (.pre [⟨some 96, none, .mov (.t 0), []⟩,
    ⟨some 97, none, .mov (.t 0), []⟩,
    ⟨some 98, none, .nilck (.t 97), []⟩,
    ⟨some 99, none, .faddr (.t 98) 8, []⟩,
    ⟨some 100, none, .load false 1 (.t 99), []⟩,
    ⟨some 101, none, .mov (.t 2), []⟩,
    ⟨some 102, none, .mov (.t 3), []⟩,
    ⟨some 103, none, .iaddr 3 (.t 101) (.t 102), []⟩,
    ⟨some 104, none, .faddr (.t 103) 0, []⟩,
    ⟨some 105, none, .load false 1 (.t 104), []⟩,
    ⟨some 106, none, .mov (.t 2), []⟩,
    ⟨some 107, none, .mov (.t 3), []⟩,
    ⟨some 108, none, .iaddr 3 (.t 106) (.t 107), []⟩,
    ⟨some 109, none, .faddr (.t 108) 1, []⟩,
    ⟨some 110, none, .load false 1 (.t 109), []⟩,
    ⟨some 111, none, .build [(.int .i64 0), (.int .i64 0), (.int .i64 0), (.int .i64 0), (.int .i64 0), (.int .i64 0), .nil] [(0, 1, (.c (.int .i64 2))), (2, 1, (.t 100)), (3, 1, (.t 105)), (6, 1, (.t 110))], []⟩]
  (.act ⟨some 112, none, .call 77 [(.t 96), (.t 111)], []⟩
  .done)))
  .skip)))))
  fn54u2)
def fn54u4 : Cd := (.seq (.region [⟨some 79, none, .bin .lss (.t 78) (.t 77), []⟩])
  (.seq (.cond (.t 79) .skip
  (.exit 0))
  fn54u3))
def fn54u5 : Cd := (.region [⟨some 114, none, .mov (.t 0), []⟩,
    ⟨some 115, none, .mov (.t 2), []⟩,
    ⟨some 116, none, .nilck (.t 114), []⟩,
    ⟨some 117, none, .faddr (.t 116) 0, []⟩,
    ⟨some 118, none, .faddr (.t 117) 3, []⟩,
    ⟨none, none, .store 1 (.t 118) (.t 115), []⟩])
def fn54u6 : Cd := (.seq (.region [⟨some 70, none, .mov (.t 0), []⟩,
    ⟨some 71, none, .nilck (.t 70), []⟩,
    ⟨some 72, none, .faddr (.t 71) 0, []⟩,
    ⟨some 73, none, .faddr (.t 72) 3, []⟩,
    ⟨some 74, none, .load false 1 (.t 73), []⟩,
    ⟨some 75, none, .call 81 [(.t 74)], []⟩,
    ⟨some 2, none, .mov (.t 75), []⟩])
  (.seq (.seq (.region [⟨some 76, none, .mov (.t 2), []⟩,
    ⟨some 77, none, .len (.t 76), []⟩,
    ⟨some 78, none, .mov (.c (.int .i64 0)), []⟩])
  (.block 0 (.loop fn54u4)))
  fn54u5))
def fn54u7 : Cd := (.seq (.seq (.region [⟨some 57, none, .mov (.t 0), []⟩,
    ⟨some 58, none, .nilck (.t 57), []⟩,
    ⟨some 59, none, .faddr (.t 58) 10, []⟩,
    ⟨some 60, none, .load false 1 (.t 59), []⟩,
    ⟨some 61, none, .bin .rem (.t 60) (.c (.int .i64 8)), []⟩,
    ⟨some 62, none, .bin .eql (.t 61) (.c (.int .i64 0)), []⟩])
  (.cond (.t 62) (.region [⟨some 63, none, .mov (.t 0), []⟩,
    ⟨some 64, none, .mov (.t 0), []⟩,
    ⟨some 65, none, .nilck (.t 64), []⟩,
    ⟨some 66, none, .faddr (.t 65) 8, []⟩,
    ⟨some 67, none, .load false 1 (.t 66), []⟩,
    ⟨some 68, none, .build [(.int .i64 0), (.int .i64 0), (.int .i64 0), (.int .i64 0), (.int .i64 0), (.int .i64 0), .nil] [(0, 1, (.c (.int .i64 1))), (2, 1, (.t 67))], []⟩,
    ⟨some 69, none, .call 77 [(.t 63), (.t 68)], []⟩])
  .skip))
  fn54u6)
def fn54u8 : Cd := (.seq (.region [⟨some 40, none, .mov (.t 0), []⟩,
    ⟨some 41, none, .nilck (.t 40), []⟩,
    ⟨some 42, none, .faddr (.t 41) 0, []⟩,
    ⟨some 43, none, .faddr (.t 42) 1, []⟩,
    ⟨some 44, none, .load false 1 (.t 43), []⟩,
    ⟨some 45, none, .bin .add (.t 44) (.c (.int .i64 1)), []⟩,
    ⟨some 46, none, .nilck (.t 40), []⟩,
    ⟨some 47, none, .faddr (.t 46) 0, []⟩,
    ⟨some 48, none, .faddr (.t 47) 1, []⟩,
    ⟨none, none, .store 1 (.t 48) (.t 45), []⟩])
  (.seq (.seq (.region [⟨some 49, none, .mov (.t 0), []⟩,
    ⟨some 50, none, .nilck (.t 49), []⟩,
    ⟨some 51, none, .faddr (.t 50) 0, []⟩,
    ⟨some 52, none, .faddr (.t 51) 1, []⟩,
    ⟨some 53, none, .load false 1 (.t 52), []⟩,
    ⟨some 54, none, .bin .geq (.t 53) (.c (.int .i64 64)), []⟩])
  (.cond (.t 54) (.seq (.region [⟨some 55, none, .mov (.t 0), []⟩,
    ⟨some 56, none, .call 80 [(.t 55)], []⟩])
  .ret)
  .skip))
  fn54u7))
def fn54u9 : Cd := (.seq (.region [⟨some 7, none, .mov (.t 0), []⟩,
    ⟨some 8, none, .nilck (.t 7), []⟩,
    ⟨some 9, none, .faddr (.t 8) 10, []⟩,
    ⟨some 10, none, .load false 1 (.t 9), []⟩,
    ⟨some 11, none, .bin .add (.t 10) (.c (.int .i64 1)), []⟩,
    ⟨some 12, none, .nilck (.t 7), []⟩,
    ⟨some 13, none, .faddr (.t 12) 10, []⟩,
    ⟨none, none, .store 1 (.t 13) (.t 11), []⟩])
  (.seq (.seq (.region [⟨some 14, none, .mov (.t 0), []⟩,
    ⟨some 15, none, .nilck (.t 14), []⟩,
    ⟨some 16, none, .faddr (.t 15) 0, []⟩,
    ⟨some 17, none, .faddr (.t 16) 0, []⟩,
    ⟨some 18, none, .load false 1 (.t 17), []⟩,
    ⟨some 19, none, .un .not (.t 18), []⟩])
  (.cond (.t 19) (.seq (.seq (.region [⟨some 20, none, .mov (.t 0), []⟩,
    ⟨some 21, none, .nilck (.t 20), []⟩,
    ⟨some 22, none, .faddr (.t 21) 8, []⟩,
    ⟨some 23, none, .load false 1 (.t 22), []⟩,
    ⟨some 24, none, .bin .gtr (.t 23) (.c (.int .i64 0)), []⟩,
    ⟨some 25, none, .mov (.t 24), []⟩,
    ⟨some 26, (some (25, true)), .mov (.t 0), []⟩,
    ⟨some 27, (some (25, true)), .nilck (.t 26), []⟩,
    ⟨some 28, (some (25, true)), .faddr (.t 27) 10, []⟩,
    ⟨some 29, (some (25, true)), .load false 1 (.t 28), []⟩,
    ⟨some 30, (some (25, true)), .bin .rem (.t 29) (.c (.int .i64 4)), []⟩,
    ⟨some 31, (some (25, true)), .bin .eql (.t 30) (.c (.int .i64 0)), []⟩,
    ⟨some 32, none, .pick (.t 25) (.t 31) (.c (.bool false)), []⟩])
  fn54u1)
  .ret)
  .skip))
  fn54u8))
def fn54 : Fn0 := ⟨1, (.seq (.seq (.region [⟨some 4, none, .mov (.t 0), []⟩,
    ⟨some 5, none, .call 59 [(.t 4)], []⟩,
    ⟨some 6, none, .un .not (.t 5), []⟩])
  (.cond (.t 6) .ret
  .skip))
  fn54u9),
  []⟩
theorem fn54uis : cFn Tryd.prog 54 = some fn54 := by kernel_rfl

/- slices.Delete[[][]byte,[]byte] -/
def fn55u1 : Cd := (.seq (.region [⟨some 18, none, .mov (.t 0), []⟩,
    ⟨some 19, none, .len (.t 18), []⟩,
    ⟨some 7, none, .mov (.t 19), []⟩])
  (.seq (.draw (.pre [⟨some 20, none, .mov (.t 0), []⟩,
    ⟨some 21, none, .mov (.t 1), []⟩,
    ⟨some 22, none, .slice 1 (.t 20) none (some (.t 21)) none, []⟩,
    ⟨some 23, none, .mov (.t 0), []⟩,
    ⟨some 24, none, .mov (.t 2), []⟩,
    ⟨some 25, none, .slice 1 (.t 23) (some (.t 24)) none none, []⟩]
  (.act ⟨some 26, none, .append 27 1 24 (.t 22) (.t 25), []⟩
  (.act ⟨some 0, none, .mov (.t 26), []⟩
  .done))))
  (.seq (.region [⟨some 27, none, .mov (.t 0), []⟩,
    ⟨some 28, none, .mov (.t 0), []⟩,
    ⟨some 29, none, .len (.t 28), []⟩,
    ⟨some 30, none, .mov (.t 7), []⟩,
    ⟨some 31, none, .slice 1 (.t 27) (some (.t 29)) (some (.t 30)) none, []⟩,
    ⟨none, none, .clear .nil (.t 31), []⟩])
  (.seq (.region [⟨some 32, none, .mov (.t 0), []⟩,
    ⟨some 6, none, .mov (.t 32), []⟩])
  .ret))))
def fn55 : Fn0 := ⟨3, (.seq (.region [⟨some 6, none, .mov (.c .nil), []⟩])
  (.seq (.region [⟨some 8, none, .mov (.t 0), []⟩,
    ⟨some 9, none, .mov (.t 1), []⟩,
    ⟨some 10, none, .mov (.t 2), []⟩,
    ⟨some 11, none, .mov (.t 0), []⟩,
    ⟨some 12, none, .len (.t 11), []⟩,
    ⟨some 13, none, .slice 1 (.t 8) (some (.t 9)) (some (.t 10)) (some (.t 12)), []⟩])
  (.seq (.seq (.region [⟨some 14, none, .mov (.t 1), []⟩,
    ⟨some 15, none, .mov (.t 2), []⟩,
    ⟨some 16, none, .bin .eql (.t 14) (.t 15), []⟩])
  (.cond (.t 16) (.seq (.region [⟨some 17, none, .mov (.t 0), []⟩,
    ⟨some 6, none, .mov (.t 17), []⟩])
  .ret)
  .skip))
  fn55u1))),
  [.tmp 6]⟩
theorem fn55uis : cFn Tryd.prog 55 = some fn55 := by kernel_rfl

/- slices.Clone[[][]byte,[]byte] -/
def fn56u1 : Cd := (.seq (.region [⟨some 5, none, .mov (.c .nil), []⟩,
    ⟨some 6, none, .mov (.t 0), []⟩,
    ⟨some 7, none, .append 27 1 24 (.t 5) (.t 6), []⟩,
    ⟨some 2, none, .mov (.t 7), []⟩])
  .ret)
def fn56 : Fn0 := ⟨1, (.seq (.region [⟨some 2, none, .mov (.c .nil), []⟩])
  (.seq (.seq (.region [⟨some 3, none, .mov (.t 0), []⟩,
    ⟨some 4, none, .isnil false (.t 3), []⟩])
  (.cond (.t 4) (.seq (.region [⟨some 2, none, .mov (.c .nil), []⟩])
  .ret)
  .skip))
  fn56u1)),
  [.tmp 2]⟩
theorem fn56uis : cFn Tryd.prog 56 = some fn56 := by kernel_rfl

/- (*flume/flumelaw12.pair).take -/
def fn57u1 : Cd := (.seq (.draw (.pre [⟨some 69, none, .mov (.t 0), []⟩,
    ⟨some 70, none, .nilck (.t 69), []⟩,
    ⟨some 71, none, .faddr (.t 70) 5, []⟩,
    ⟨some 72, none, .load false 1 (.t 71), []⟩,
    ⟨some 73, none, .load true 3 (.t 12), []⟩,
    ⟨some 75, none, .mov (.t 10), []⟩]
  (.act ⟨some 76, none, .mentry (some 3) .nil (.t 72) (.t 73), []⟩
  (.pre [⟨some 74, none, .extract (.t 76) 0, []⟩,
    ⟨some 78, none, .extract (.t 76) 1, []⟩]
  (.act ⟨some 77, none, .append 27 1 24 (.t 74) (.t 75), []⟩
  (.act ⟨none, none, .estore (.t 72) (.t 78) (.t 77), []⟩
  .done))))))
  (.seq (.draw (.pre [⟨some 79, none, .mov (.t 0), []⟩,
    ⟨some 80, none, .nilck (.t 79), []⟩,
    ⟨some 81, none, .faddr (.t 80) 5, []⟩,
    ⟨some 82, none, .load false 1 (.t 81), []⟩,
    ⟨some 83, none, .load true 3 (.t 12), []⟩,
    ⟨some 84, none, .lookup (some 3) .nil (.t 82) (.t 83) false, []⟩,
    ⟨some 85, none, .len (.t 84), []⟩,
    ⟨some 13, none, .mov (.t 85), []⟩]
  .done))
  (.seq (.draw (.pre [⟨some 86, none, .mov (.t 11), []⟩,
    ⟨some 87, none, .bin .eql (.t 86) (.c (.int .i64 0)), []⟩,
    ⟨some 88, none, .mov (.t 87), []⟩,
    ⟨some 89, (some (88, true)), .mov (.t 13), []⟩,
    ⟨some 90, (some (88, true)), .mov (.t 0), []⟩,
    ⟨some 91, (some (88, true)), .nilck (.t 90), []⟩,
    ⟨some 92, (some (88, true)), .faddr (.t 91) 4, []⟩,
    ⟨some 93, (some (88, true)), .load false 1 (.t 92), []⟩,
    ⟨some 94, (some (88, true)), .load true 3 (.t 12), []⟩,
    ⟨some 95, (some (88, true)), .lookup (some 3) .nil (.t 93) (.t 94) false, []⟩,
    ⟨some 96, (some (88, true)), .len (.t 95), []⟩,
    ⟨some 97, (some (88, true)), .bin .leq (.t 89) (.t 96), []⟩,
    ⟨some 98, none, .pick (.t 88) (.t 97) (.c (.bool false)), []⟩,
    ⟨some 99, none, .mov (.t 98), []⟩,
    ⟨some 100, (some (99, true)), .mov (.t 0), []⟩,
    ⟨some 101, (some (99, true)), .nilck (.t 100), []⟩,
    ⟨some 102, (some (99, true)), .faddr (.t 101) 5, []⟩,
    ⟨some 103, (some (99, true)), .load false 1 (.t 102), []⟩,
    ⟨some 104, (some (99, true)), .load true 3 (.t 12), []⟩,
    ⟨some 105, (some (99, true)), .lookup (some 3) .nil (.t 103) (.t 104) false, []⟩,
    ⟨some 106, (some (99, true)), .mov (.t 0), []⟩,
    ⟨some 107, (some (99, true)), .nilck (.t 106), []⟩,
    ⟨some 108, (some (99, true)), .faddr (.t 107) 4, []⟩,
    ⟨some 109, (some (99, true)), .load false 1 (.t 108), []⟩,
    ⟨some 110, (some (99, true)), .load true 3 (.t 12), []⟩,
    ⟨some 111, (some (99, true)), .lookup (some 3) .nil (.t 109) (.t 110) false, []⟩,
    ⟨some 112, (some (99, true)), .mov (.t 13), []⟩,
    ⟨some 113, (some (99, true)), .slice 1 (.t 111) none (some (.t 112)) none, []⟩]
  (.act ⟨some 114, (some (99, true)), .call 21 [(.t 105), (.t 113)], []⟩
  (.pre [⟨some 115, none, .pick (.t 99) (.t 114) (.c (.bool false)), []⟩,
    ⟨some 8, none, .mov (.t 115), []⟩]
  .done))))
  .ret)))
def fn57u2 : Cd := (.seq (.draw (.pre [⟨some 42, none, .mov (.t 0), []⟩,
    ⟨some 43, none, .mov (.t 1), []⟩,
    ⟨some 44, none, .nilck (.t 42), []⟩,
    ⟨some 45, none, .faddr (.t 44) 0, []⟩,
    ⟨some 46, none, .iaddrA 2 1 (.t 45) (.t 43), []⟩,
    ⟨some 47, none, .load false 1 (.t 46), []⟩,
    ⟨some 48, none, .mov (.t 9), []⟩]
  (.act ⟨some 49, none, .call 53 [(.t 48)], [(none, 47, .load false 1 (.t 46))]⟩
  (.act ⟨some 50, none, .call 79 [(.t 47), (.t 49)], []⟩
  (.pre [⟨some 41, none, .mov (.t 50), []⟩,
    ⟨some 51, none, .extract (.t 41) 0, []⟩,
    ⟨some 52, none, .extract (.t 41) 1, []⟩,
    ⟨some 10, none, .mov (.t 51), []⟩,
    ⟨some 11, none, .mov (.t 52), []⟩]
  .done)))))
  (.seq (.draw (.pre [⟨some 53, none, .mov (.t 0), []⟩,
    ⟨some 54, none, .mov (.t 1), []⟩,
    ⟨some 55, none, .nilck (.t 53), []⟩,
    ⟨some 56, none, .faddr (.t 55) 0, []⟩,
    ⟨some 57, none, .iaddrA 2 1 (.t 56) (.t 54), []⟩,
    ⟨some 58, none, .load false 1 (.t 57), []⟩,
    ⟨some 60, none, .mov (.t 0), []⟩,
    ⟨some 61, none, .mov (.t 1), []⟩,
    ⟨some 62, none, .nilck (.t 60), []⟩,
    ⟨some 63, none, .faddr (.t 62) 0, []⟩,
    ⟨some 64, none, .iaddrA 2 1 (.t 63) (.t 61), []⟩,
    ⟨some 65, none, .load false 1 (.t 64), []⟩,
    ⟨some 67, none, .mov (.t 1), []⟩]
  (.both (.act ⟨some 59, none, .call 19 [(.t 58)], [(none, 65, .load false 1 (.t 64))]⟩
  (.both (.act ⟨some 66, none, .call 20 [(.t 65)], []⟩
  (.pre [⟨some 68, none, .build [(.int .i64 0), (.int .i64 0), (.int .i64 0)] [(0, 1, (.t 59)), (1, 1, (.t 66)), (2, 1, (.t 67))], []⟩]
  (.act ⟨some 12, none, .box 39 3 (.c (.agg [(.int .i64 0), (.int .i64 0), (.int .i64 0)])), [(none, 58, .load false 1 (.t 57)), (none, 65, .load false 1 (.t 64))]⟩
  (.act ⟨none, none, .store 3 (.t 12) (.t 68), []⟩
  .done))))
  (.act ⟨some 12, none, .box 39 3 (.c (.agg [(.int .i64 0), (.int .i64 0), (.int .i64 0)])), [(none, 58, .load false 1 (.t 57)), (none, 65, .load false 1 (.t 64))]⟩
  (.act ⟨some 66, none, .call 20 [(.t 65)], []⟩
  (.pre [⟨some 68, none, .build [(.int .i64 0), (.int .i64 0), (.int .i64 0)] [(0, 1, (.t 59)), (1, 1, (.t 66)), (2, 1, (.t 67))], []⟩]
  (.act ⟨none, none, .store 3 (.t 12) (.t 68), []⟩
  .done))))))
  (.act ⟨some 12, none, .box 39 3 (.c (.agg [(.int .i64 0), (.int .i64 0), (.int .i64 0)])), [(none, 58, .load false 1 (.t 57)), (none, 65, .load false 1 (.t 64))]⟩
  (.act ⟨some 59, none, .call 19 [(.t 58)], [(none, 65, .load false 1 (.t 64))]⟩
  (.act ⟨some 66, none, .call 20 [(.t 65)], []⟩
  (.pre [⟨some 68, none, .build [(.int .i64 0), (.int .i64 0), (.int .i64 0)] [(0, 1, (.t 59)), (1, 1, (.t 66)), (2, 1, (.t 67))], []⟩]
  (.act ⟨none, none, .store 3 (.t 12) (.t 68), []⟩
  .done))))))))
  fn57u1))
def fn57 : Fn0 := ⟨4, (.seq (.region [⟨some 8, none, .mov (.c (.bool false)), []⟩])
  (.seq (.region [⟨some 14, none, .mov (.t 0), []⟩,
    ⟨some 15, none, .mov (.t 1), []⟩,
    ⟨some 16, none, .nilck (.t 14), []⟩,
    ⟨some 17, none, .faddr (.t 16) 2, []⟩,
    ⟨some 18, none, .iaddrA 2 1 (.t 17) (.t 15), []⟩,
    ⟨some 19, none, .load false 1 (.t 18), []⟩,
    ⟨some 20, none, .mov (.t 2), []⟩,
    ⟨some 21, none, .iaddr 1 (.t 19) (.t 20), []⟩,
    ⟨some 22, none, .load false 1 (.t 21), []⟩,
    ⟨some 9, none, .mov (.t 22), []⟩])
  (.seq (.seq (.region [⟨some 23, none, .mov (.t 3), []⟩,
    ⟨some 24, none, .un .not (.t 23), []⟩])
  (.cond (.t 24) (.draw (.pre [⟨some 25, none, .mov (.t 0), []⟩,
    ⟨some 26, none, .mov (.t 1), []⟩,
    ⟨some 27, none, .mov (.t 0), []⟩,
    ⟨some 28, none, .mov (.t 1), []⟩,
    ⟨some 29, none, .nilck (.t 27), []⟩,
    ⟨some 30, none, .faddr (.t 29) 2, []⟩,
    ⟨some 31, none, .iaddrA 2 1 (.t 30) (.t 28), []⟩,
    ⟨some 32, none, .load false 1 (.t 31), []⟩,
    ⟨some 34, none, .mov (.t 2), []⟩,
    ⟨some 35, none, .mov (.t 2), []⟩,
    ⟨some 36, none, .bin .add (.t 35) (.c (.int .i64 1)), []⟩,
    ⟨some 38, none, .nilck (.t 25), []⟩,
    ⟨some 39, none, .faddr (.t 38) 2, []⟩]
  (.act ⟨some 33, none, .call 56 [(.t 32)], []⟩
  (.act ⟨some 37, none, .call 55 [(.t 33), (.t 34), (.t 36)], []⟩
  (.pre [⟨some 40, none, .iaddrA 2 1 (.t 39) (.t 26), []⟩]
  (.act ⟨none, none, .store 1 (.t 40) (.t 37), []⟩
  .done))))))
  .skip))
  fn57u2))),
  [.tmp 8]⟩
theorem fn57uis : cFn Tryd.prog 57 = some fn57 := by kernel_rfl

/- (*flume/flumelaw12.pair).out -/
def fn58u1 : Cd := (.region [⟨some 45, none, .bin .add (.t 16) (.c (.int .i64 1)), []⟩,
    ⟨some 16, none, .mov (.t 45), []⟩])
def fn58u2 : Cd := (.seq (.block 3 (.seq (.region [⟨some 18, none, .iaddr 1 (.t 14) (.t 16), []⟩,
    ⟨some 19, none, .load false 1 (.t 18), []⟩,
    ⟨some 4, none, .mov (.t 19), []⟩])
  (.seq (.region [⟨some 20, none, .mov (.t 0), []⟩,
    ⟨some 21, none, .mov (.t 2), []⟩,
    ⟨some 22, none, .bin .sub (.c (.int .i64 1)) (.t 21), []⟩,
    ⟨some 23, none, .nilck (.t 20), []⟩,
    ⟨some 24, none, .faddr (.t 23) 2, []⟩,
    ⟨some 25, none, .iaddrA 2 1 (.t 24) (.t 22), []⟩,
    ⟨some 26, none, .load false 1 (.t 25), []⟩,
    ⟨some 27, none, .len (.t 26), []⟩,
    ⟨some 28, none, .bin .lss (.t 27) (.c (.int .i64 200)), []⟩])
  (.cond (.t 28) (.draw (.pre [⟨some 29, none, .mov (.t 0), []⟩,
    ⟨some 30, none, .mov (.t 2), []⟩,
    ⟨some 31, none, .bin .sub (.c (.int .i64 1)) (.t 30), []⟩,
    ⟨some 32, none, .mov (.t 0), []⟩,
    ⟨some 33, none, .mov (.t 2), []⟩,
    ⟨some 34, none, .bin .sub (.c (.int .i64 1)) (.t 33), []⟩,
    ⟨some 35, none, .nilck (.t 32), []⟩,
    ⟨some 36, none, .faddr (.t 35) 2, []⟩,
    ⟨some 37, none, .iaddrA 2 1 (.t 36) (.t 34), []⟩,
    ⟨some 38, none, .load false 1 (.t 37), []⟩,
    ⟨some 39, none, .mov (.t 4), []⟩,
    ⟨some 42, none, .nilck (.t 29), []⟩,
    ⟨some 43, none, .faddr (.t 42) 2, []⟩]
  (.act ⟨some 40, none, .bslice 27 1 .nil 1 [(0, (.t 39))], [(none, 38, .load false 1 (.t 37))]⟩
  (.act ⟨some 41, none, .append 27 1 24 (.t 38) (.t 40), []⟩
  (.pre [⟨some 44, none, .iaddrA 2 1 (.t 43) (.t 31), []⟩]
  (.act ⟨none, none, .store 1 (.t 44) (.t 41), []⟩
  .done))))))
  .skip))))
  fn58u1)
def fn58u3 : Cd := (.seq (.region [⟨some 17, none, .bin .lss (.t 16) (.t 15), []⟩])
  (.seq (.cond (.t 17) .skip
  (.exit 2))
  fn58u2))
def fn58u4 : Cd := (.region [⟨some 46, none, .bin .add (.t 5) (.c (.int .i64 1)), []⟩,
    ⟨some 5, none, .mov (.t 46), []⟩])
def fn58u5 : Cd := (.seq (.block 1 (.seq (.region [⟨some 7, none, .mov (.t 5), []⟩,
    ⟨some 2, none, .mov (.t 7), []⟩])
  (.seq (.region [⟨some 8, none, .mov (.t 0), []⟩,
    ⟨some 9, none, .mov (.t 2), []⟩,
    ⟨some 10, none, .nilck (.t 8), []⟩,
    ⟨some 11, none, .faddr (.t 10) 0, []⟩,
    ⟨some 12, none, .iaddrA 2 1 (.t 11) (.t 9), []⟩,
    ⟨some 13, none, .load false 1 (.t 12), []⟩,
    ⟨some 14, none, .call 78 [(.t 13)], []⟩,
    ⟨some 15, none, .len (.t 14), []⟩,
    ⟨some 16, none, .mov (.c (.int .i64 0)), []⟩])
  (.block 2 (.loop fn58u3)))))
  fn58u4)
def fn58u6 : Cd := (.seq (.region [⟨some 6, none, .bin .lss (.t 5) (.c (.int .i64 2)), []⟩])
  (.seq (.cond (.t 6) .skip
  (.exit 0))
  fn58u5))
def fn58 : Fn0 := ⟨1, (.seq (.region [⟨some 5, none, .mov (.c (.int .i64 0)), []⟩])
  (.block 0 (.loop fn58u6))),
  []⟩
theorem fn58uis : cFn Tryd.prog 58 = some fn58 := by kernel_rfl

/- (*flume/tunnel.Tunnel).made -/
def fn59 : Fn0 := ⟨1, (.seq (.region [⟨some 2, none, .mov (.c (.bool false)), []⟩])
  (.seq (.region [⟨some 3, none, .mov (.t 0), []⟩,
    ⟨some 4, none, .eq true .ptr (.t 3) (.c .nilp), []⟩,
    ⟨some 5, none, .mov (.t 4), []⟩,
    ⟨some 6, (some (5, true)), .mov (.t 0), []⟩,
    ⟨some 7, (some (5, true)), .nilck (.t 6), []⟩,
    ⟨some 8, (some (5, true)), .faddr (.t 7) 7, []⟩,
    ⟨some 9, (some (5, true)), .load false 1 (.t 8), []⟩,
    ⟨some 10, (some (5, true)), .bin .gtr (.t 9) (.c (.int .i64 0)), []⟩,
    ⟨some 11, none, .pick (.t 5) (.t 10) (.c (.bool false)), []⟩,
    ⟨some 2, none, .mov (.t 11), []⟩])
  .ret)),
  [.tmp 2]⟩
theorem fn59uis : cFn Tryd.prog 59 = some fn59 := by kernel_rfl

end Go.Am
