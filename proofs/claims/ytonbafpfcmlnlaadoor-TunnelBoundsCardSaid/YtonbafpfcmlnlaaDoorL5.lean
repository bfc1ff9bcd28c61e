/- Parts of the proof, one after another; what each part shows stands at its head. No conditions. -/
import Derived.Test.YtonbafpfcmlnlaaDoorL4
import Derived.Test.YtonbafpfcmlnlaaDoorProg
import Derived.KernelRfl
set_option linter.all false

/- The compiled functions (printed by pir.lean). -/
namespace Go.Am
open Go.Proofs

/- slices.EqualFunc[[][]byte,[][]byte,[]byte,[]byte] -/
def fn60u1 : Cd := (.region [⟨some 31, none, .bin .add (.t 17) (.c (.int .i64 1)), []⟩,
    ⟨some 17, none, .mov (.t 31), []⟩])
def fn60u2 : Cd := (.seq (.block 1 (.seq (.region [⟨some 19, none, .mov (.t 17), []⟩,
    ⟨some 20, none, .iaddr 1 (.t 15) (.t 17), []⟩,
    ⟨some 21, none, .load false 1 (.t 20), []⟩,
    ⟨some 7, none, .mov (.t 19), []⟩,
    ⟨some 8, none, .mov (.t 21), []⟩])
  (.seq (.region [⟨some 22, none, .mov (.t 1), []⟩,
    ⟨some 23, none, .mov (.t 7), []⟩,
    ⟨some 24, none, .iaddr 1 (.t 22) (.t 23), []⟩,
    ⟨some 25, none, .load false 1 (.t 24), []⟩,
    ⟨some 9, none, .mov (.t 25), []⟩])
  (.seq (.region [⟨some 26, none, .mov (.t 2), []⟩,
    ⟨some 27, none, .mov (.t 8), []⟩,
    ⟨some 28, none, .mov (.t 9), []⟩,
    ⟨some 29, none, .callv (.t 26) [(.t 27), (.t 28)], []⟩,
    ⟨some 30, none, .un .not (.t 29), []⟩])
  (.cond (.t 30) (.seq (.region [⟨some 6, none, .mov (.c (.bool false)), []⟩])
  .ret)
  .skip)))))
  fn60u1)
def fn60u3 : Cd := (.seq (.region [⟨some 18, none, .bin .lss (.t 17) (.t 16), []⟩])
  (.seq (.cond (.t 18) .skip
  (.exit 0))
  fn60u2))
def fn60u4 : Cd := (.seq (.region [⟨some 6, none, .mov (.c (.bool true)), []⟩])
  .ret)
def fn60u5 : Cd := (.seq (.seq (.region [⟨some 15, none, .mov (.t 0), []⟩,
    ⟨some 16, none, .len (.t 15), []⟩,
    ⟨some 17, none, .mov (.c (.int .i64 0)), []⟩])
  (.block 0 (.loop fn60u3)))
  fn60u4)
def fn60 : Fn0 := ⟨3, (.seq (.region [⟨some 6, none, .mov (.c (.bool false)), []⟩])
  (.seq (.seq (.region [⟨some 10, none, .mov (.t 0), []⟩,
    ⟨some 11, none, .len (.t 10), []⟩,
    ⟨some 12, none, .mov (.t 1), []⟩,
    ⟨some 13, none, .len (.t 12), []⟩,
    ⟨some 14, none, .bin .neq (.t 11) (.t 13), []⟩])
  (.cond (.t 14) (.seq (.region [⟨some 6, none, .mov (.c (.bool false)), []⟩])
  .ret)
  .skip))
  fn60u5)),
  [.tmp 6]⟩
theorem fn60uis : cFn Tryd.prog 60 = some fn60 := by kernel_rfl

/- bytes.Equal -/
def fn61 : Fn0 := ⟨2, (.seq (.region [⟨some 4, none, .mov (.c (.bool false)), []⟩])
  (.seq (.region [⟨some 5, none, .mov (.t 0), []⟩,
    ⟨some 6, none, .b2s (.t 5), []⟩,
    ⟨some 7, none, .mov (.t 1), []⟩,
    ⟨some 8, none, .b2s (.t 7), []⟩,
    ⟨some 9, none, .bin .eql (.t 6) (.t 8), []⟩,
    ⟨some 4, none, .mov (.t 9), []⟩])
  .ret)),
  [.tmp 4]⟩
theorem fn61uis : cFn Tryd.prog 61 = some fn61 := by kernel_rfl

/- (*flume/tunnel.Tunnel).slide -/
def fn76u1 : Cd := (.cond (.t 35) .skip
  (.exit 0))
def fn76u2 : Cd := (.seq (.draw (.pre [⟨some 70, none, .mov (.t 0), []⟩,
    ⟨some 71, none, .mov (.t 0), []⟩,
    ⟨some 72, none, .nilck (.t 71), []⟩,
    ⟨some 73, none, .faddr (.t 72) 8, []⟩,
    ⟨some 74, none, .load false 1 (.t 73), []⟩,
    ⟨some 75, none, .mov (.t 0), []⟩,
    ⟨some 76, none, .nilck (.t 75), []⟩,
    ⟨some 77, none, .faddr (.t 76) 0, []⟩,
    ⟨some 78, none, .faddr (.t 77) 2, []⟩,
    ⟨some 79, none, .load false 1 (.t 78), []⟩,
    ⟨some 80, none, .mov (.t 0), []⟩,
    ⟨some 81, none, .nilck (.t 80), []⟩,
    ⟨some 82, none, .faddr (.t 81) 0, []⟩,
    ⟨some 83, none, .faddr (.t 82) 4, []⟩,
    ⟨some 84, none, .load false 1 (.t 83), []⟩,
    ⟨some 85, none, .iaddr 1 (.t 84) (.c (.int .i64 0)), []⟩,
    ⟨some 86, none, .load false 1 (.t 85), []⟩,
    ⟨some 87, none, .build [(.int .i64 0), (.int .i64 0), (.int .i64 0), (.int .i64 0), (.int .i64 0), (.int .i64 0), .nil] [(0, 1, (.c (.int .i64 2))), (2, 1, (.t 74)), (3, 1, (.t 79)), (6, 1, (.t 86))], []⟩]
  (.act ⟨some 88, none, .call 77 [(.t 70), (.t 87)], []⟩
  .done)))
  (.region [⟨some 89, none, .mov (.t 0), []⟩,
    ⟨some 90, none, .mov (.t 0), []⟩,
    ⟨some 91, none, .nilck (.t 90), []⟩,
    ⟨some 92, none, .faddr (.t 91) 0, []⟩,
    ⟨some 93, none, .faddr (.t 92) 4, []⟩,
    ⟨some 94, none, .load false 1 (.t 93), []⟩,
    ⟨some 95, none, .slice 1 (.t 94) (some (.c (.int .i64 1))) none none, []⟩,
    ⟨some 96, none, .call 56 [(.t 95)], []⟩,
    ⟨some 97, none, .nilck (.t 89), []⟩,
    ⟨some 98, none, .faddr (.t 97) 0, []⟩,
    ⟨some 99, none, .faddr (.t 98) 4, []⟩,
    ⟨none, none, .store 1 (.t 99) (.t 96), []⟩]))
def fn76u3 : Cd := (.block 1 (.seq (.region [⟨some 36, none, .mov (.t 0), []⟩,
    ⟨some 37, none, .nilck (.t 36), []⟩,
    ⟨some 38, none, .faddr (.t 37) 0, []⟩,
    ⟨some 39, none, .faddr (.t 38) 2, []⟩,
    ⟨some 40, none, .load false 1 (.t 39), []⟩,
    ⟨some 41, none, .bin .add (.t 40) (.c (.int .i64 1)), []⟩,
    ⟨some 42, none, .nilck (.t 36), []⟩,
    ⟨some 43, none, .faddr (.t 42) 0, []⟩,
    ⟨some 44, none, .faddr (.t 43) 2, []⟩,
    ⟨none, none, .store 1 (.t 44) (.t 41), []⟩])
  (.seq (.draw (.pre [⟨some 45, none, .mov (.t 0), []⟩,
    ⟨some 46, none, .mov (.t 0), []⟩,
    ⟨some 47, none, .nilck (.t 46), []⟩,
    ⟨some 48, none, .faddr (.t 47) 0, []⟩,
    ⟨some 49, none, .faddr (.t 48) 3, []⟩,
    ⟨some 50, none, .load false 1 (.t 49), []⟩,
    ⟨some 52, none, .mov (.t 0), []⟩,
    ⟨some 53, none, .nilck (.t 52), []⟩,
    ⟨some 54, none, .faddr (.t 53) 0, []⟩,
    ⟨some 55, none, .faddr (.t 54) 2, []⟩,
    ⟨some 56, none, .load false 1 (.t 55), []⟩,
    ⟨some 57, none, .mov (.t 0), []⟩,
    ⟨some 58, none, .nilck (.t 57), []⟩,
    ⟨some 59, none, .faddr (.t 58) 0, []⟩,
    ⟨some 60, none, .faddr (.t 59) 4, []⟩,
    ⟨some 61, none, .load false 1 (.t 60), []⟩,
    ⟨some 62, none, .iaddr 1 (.t 61) (.c (.int .i64 0)), []⟩,
    ⟨some 63, none, .load false 1 (.t 62), []⟩,
    ⟨some 64, none, .build [(.int .i64 0), .nil, (.int .i64 0)] [(0, 1, (.t 56)), (1, 1, (.t 63))], []⟩]
  (.both (.act ⟨some 51, none, .call 81 [(.t 50)], [(none, 56, .load false 1 (.t 55)), (none, 61, .load false 1 (.t 60)), (none, 62, .iaddr 1 (.t 61) (.c (.int .i64 0))), (none, 63, .load false 1 (.t 62))]⟩
  (.act ⟨some 65, none, .bslice 140 3 (.agg [(.int .i64 0), .nil, (.int .i64 0)]) 1 [(0, (.t 64))], [(none, 50, .load false 1 (.t 49))]⟩
  (.act ⟨some 66, none, .append 140 3 40 (.t 51) (.t 65), []⟩
  (.pre [⟨some 67, none, .nilck (.t 45), []⟩,
    ⟨some 68, none, .faddr (.t 67) 0, []⟩,
    ⟨some 69, none, .faddr (.t 68) 3, []⟩]
  (.act ⟨none, none, .store 1 (.t 69) (.t 66), []⟩
  .done)))))
  (.act ⟨some 65, none, .bslice 140 3 (.agg [(.int .i64 0), .nil, (.int .i64 0)]) 1 [(0, (.t 64))], [(none, 50, .load false 1 (.t 49))]⟩
  (.act ⟨some 51, none, .call 81 [(.t 50)], [(none, 56, .load false 1 (.t 55)), (none, 61, .load false 1 (.t 60)), (none, 62, .iaddr 1 (.t 61) (.c (.int .i64 0))), (none, 63, .load false 1 (.t 62))]⟩
  (.act ⟨some 66, none, .append 140 3 40 (.t 51) (.t 65), []⟩
  (.pre [⟨some 67, none, .nilck (.t 45), []⟩,
    ⟨some 68, none, .faddr (.t 67) 0, []⟩,
    ⟨some 69, none, .faddr (.t 68) 3, []⟩]
  (.act ⟨none, none, .store 1 (.t 69) (.t 66), []⟩
  .done))))))))
  fn76u2)))
def fn76u4 : Cd := (.seq (.seq (.draw (.pre [⟨some 2, none, .mov (.t 0), []⟩,
    ⟨some 3, none, .nilck (.t 2), []⟩,
    ⟨some 4, none, .faddr (.t 3) 0, []⟩,
    ⟨some 5, none, .faddr (.t 4) 4, []⟩,
    ⟨some 6, none, .load false 1 (.t 5), []⟩,
    ⟨some 7, none, .len (.t 6), []⟩,
    ⟨some 8, none, .bin .gtr (.t 7) (.c (.int .i64 0)), []⟩,
    ⟨some 9, none, .mov (.t 8), []⟩,
    ⟨some 10, (some (9, true)), .mov (.t 0), []⟩,
    ⟨some 11, (some (9, true)), .nilck (.t 10), []⟩,
    ⟨some 12, (some (9, true)), .faddr (.t 11) 0, []⟩,
    ⟨some 13, (some (9, true)), .faddr (.t 12) 3, []⟩,
    ⟨some 14, (some (9, true)), .load false 1 (.t 13), []⟩,
    ⟨some 15, (some (9, true)), .len (.t 14), []⟩,
    ⟨some 16, (some (9, true)), .bin .eql (.t 15) (.c (.int .i64 0)), []⟩,
    ⟨some 17, (some (9, true)), .mov (.t 16), []⟩,
    ⟨some 18, (some (17, false)), .mov (.t 0), []⟩,
    ⟨some 19, (some (17, false)), .nilck (.t 18), []⟩,
    ⟨some 20, (some (17, false)), .faddr (.t 19) 0, []⟩,
    ⟨some 21, (some (17, false)), .faddr (.t 20) 2, []⟩,
    ⟨some 22, (some (17, false)), .load false 1 (.t 21), []⟩,
    ⟨some 23, (some (17, false)), .bin .add (.t 22) (.c (.int .i64 1)), []⟩,
    ⟨some 24, (some (17, false)), .mov (.t 0), []⟩,
    ⟨some 25, (some (17, false)), .nilck (.t 24), []⟩,
    ⟨some 26, (some (17, false)), .faddr (.t 25) 0, []⟩,
    ⟨some 27, (some (17, false)), .faddr (.t 26) 3, []⟩,
    ⟨some 28, (some (17, false)), .load false 1 (.t 27), []⟩,
    ⟨some 29, (some (17, false)), .iaddr 3 (.t 28) (.c (.int .i64 0)), []⟩,
    ⟨some 30, (some (17, false)), .faddr (.t 29) 0, []⟩,
    ⟨some 31, (some (17, false)), .load false 1 (.t 30), []⟩,
    ⟨some 32, (some (17, false)), .bin .sub (.t 23) (.t 31), []⟩,
    ⟨some 33, (some (17, false)), .bin .lss (.t 32) (.c (.int .i64 16)), []⟩,
    ⟨some 34, (some (9, true)), .pick (.t 17) (.c (.bool true)) (.t 33), []⟩,
    ⟨some 35, none, .pick (.t 9) (.t 34) (.c (.bool false)), []⟩]
  .done))
  fn76u1)
  fn76u3)
def fn76 : Fn0 := ⟨1, (.block 0 (.loop fn76u4)),
  []⟩
theorem fn76uis : cFn Tryd.prog 76 = some fn76 := by kernel_rfl

/- (*flume/tunnel.Tunnel).say -/
def fn77 : Fn0 := ⟨2, (.seq (.region [⟨some 3, none, .box 134 7 (.t 1), []⟩])
  (.seq (.region [⟨some 6, none, .mov (.t 0), []⟩,
    ⟨some 7, none, .nilck (.t 6), []⟩,
    ⟨some 8, none, .faddr (.t 7) 7, []⟩,
    ⟨some 9, none, .load false 1 (.t 8), []⟩,
    ⟨some 10, none, .faddr (.t 3) 1, []⟩,
    ⟨none, none, .store 1 (.t 10) (.t 9), []⟩])
  (.seq (.region [⟨some 12, none, .load true 7 (.t 3), []⟩,
    ⟨some 13, none, .call 92 [(.t 12)], []⟩,
    ⟨some 11, none, .mov (.t 13), []⟩,
    ⟨some 14, none, .extract (.t 11) 0, []⟩,
    ⟨some 15, none, .extract (.t 11) 1, []⟩,
    ⟨some 4, none, .mov (.t 14), []⟩,
    ⟨some 5, none, .mov (.t 15), []⟩])
  (.region [⟨some 16, none, .mov (.t 0), []⟩,
    ⟨some 17, none, .mov (.t 0), []⟩,
    ⟨some 18, none, .nilck (.t 17), []⟩,
    ⟨some 19, none, .faddr (.t 18) 11, []⟩,
    ⟨some 20, none, .load false 1 (.t 19), []⟩,
    ⟨some 21, none, .mov (.t 4), []⟩,
    ⟨some 22, none, .bslice 27 1 .nil 1 [(0, (.t 21))], []⟩,
    ⟨some 23, none, .append 27 1 24 (.t 20) (.t 22), []⟩,
    ⟨some 24, none, .nilck (.t 16), []⟩,
    ⟨some 25, none, .faddr (.t 24) 11, []⟩,
    ⟨none, none, .store 1 (.t 25) (.t 23), []⟩])))),
  []⟩
theorem fn77uis : cFn Tryd.prog 77 = some fn77 := by kernel_rfl

/- (*flume/tunnel.Tunnel).Out -/
def fn78u1 : Cd := (.seq (.region [⟨some 7, none, .mov (.t 0), []⟩,
    ⟨some 8, none, .nilck (.t 7), []⟩,
    ⟨some 9, none, .faddr (.t 8) 11, []⟩,
    ⟨some 10, none, .load false 1 (.t 9), []⟩,
    ⟨some 3, none, .mov (.t 10), []⟩])
  (.seq (.region [⟨some 11, none, .mov (.t 0), []⟩,
    ⟨some 12, none, .nilck (.t 11), []⟩,
    ⟨some 13, none, .faddr (.t 12) 11, []⟩,
    ⟨none, none, .store 1 (.t 13) (.c .nil), []⟩])
  (.seq (.region [⟨some 14, none, .mov (.t 3), []⟩,
    ⟨some 2, none, .mov (.t 14), []⟩])
  .ret)))
def fn78 : Fn0 := ⟨1, (.seq (.region [⟨some 2, none, .mov (.c .nil), []⟩])
  (.seq (.seq (.region [⟨some 4, none, .mov (.t 0), []⟩,
    ⟨some 5, none, .call 59 [(.t 4)], []⟩,
    ⟨some 6, none, .un .not (.t 5), []⟩])
  (.cond (.t 6) (.seq (.region [⟨some 2, none, .mov (.c .nil), []⟩])
  .ret)
  .skip))
  fn78u1)),
  [.tmp 2]⟩
theorem fn78uis : cFn Tryd.prog 78 = some fn78 := by kernel_rfl

/- (*flume/tunnel.Tunnel).Take -/
def fn79u1 : Cd := (.cond (.t 64) (.region [⟨some 65, none, .mov (.t 0), []⟩,
    ⟨some 66, none, .faddr (.t 6) 1, []⟩,
    ⟨some 67, none, .load false 1 (.t 66), []⟩,
    ⟨some 68, none, .build [(.int .i64 0), (.int .i64 0), (.int .i64 0), (.int .i64 0), (.int .i64 0), (.int .i64 0), .nil] [(0, 1, (.c (.int .i64 1))), (2, 1, (.t 67))], []⟩,
    ⟨some 69, none, .call 77 [(.t 65), (.t 68)], []⟩])
  .skip)
def fn79u2 : Cd := (.seq (.region [⟨some 4, none, .mov (.c .nil), []⟩,
    ⟨some 5, none, .mov (.c (.int .i64 0)), []⟩])
  .ret)
def fn79u3 : Cd := (.cond (.t 48) (.seq (.seq (.draw (.pre [⟨some 49, none, .faddr (.t 6) 2, []⟩,
    ⟨some 50, none, .load false 1 (.t 49), []⟩,
    ⟨some 51, none, .mov (.t 0), []⟩,
    ⟨some 52, none, .nilck (.t 51), []⟩,
    ⟨some 53, none, .faddr (.t 52) 7, []⟩,
    ⟨some 54, none, .load false 1 (.t 53), []⟩,
    ⟨some 55, none, .bin .neq (.t 50) (.t 54), []⟩,
    ⟨some 56, none, .mov (.t 55), []⟩,
    ⟨some 57, (some (56, true)), .faddr (.t 6) 1, []⟩,
    ⟨some 58, (some (56, true)), .load false 1 (.t 57), []⟩,
    ⟨some 59, (some (56, true)), .mov (.t 0), []⟩,
    ⟨some 60, (some (56, true)), .nilck (.t 59), []⟩,
    ⟨some 61, (some (56, true)), .faddr (.t 60) 8, []⟩,
    ⟨some 62, (some (56, true)), .load false 1 (.t 61), []⟩,
    ⟨some 63, (some (56, true)), .bin .geq (.t 58) (.t 62), []⟩,
    ⟨some 64, none, .pick (.t 56) (.t 63) (.c (.bool false)), []⟩]
  .done))
  fn79u1)
  fn79u2)
  .skip)
def fn79u4 : Cd := (.seq (.region [⟨some 80, none, .mov (.t 0), []⟩,
    ⟨some 81, none, .load true 7 (.t 6), []⟩,
    ⟨some 82, none, .call 96 [(.t 80), (.t 81)], []⟩,
    ⟨some 4, none, .mov (.t 82), []⟩,
    ⟨some 5, none, .mov (.c (.int .i64 0)), []⟩])
  .ret)
def fn79u5 : Cd := (.seq (.region [⟨some 70, none, .mov (.t 0), []⟩,
    ⟨some 71, none, .nilck (.t 70), []⟩,
    ⟨some 72, none, .faddr (.t 71) 0, []⟩,
    ⟨some 73, none, .faddr (.t 72) 1, []⟩,
    ⟨none, none, .store 1 (.t 73) (.c (.int .i64 0)), []⟩])
  (.seq (.seq (.region [⟨some 74, none, .faddr (.t 6) 0, []⟩,
    ⟨some 75, none, .load false 1 (.t 74), []⟩,
    ⟨some 76, none, .bin .eql (.t 75) (.c (.int .i64 3)), []⟩])
  (.cond (.t 76) (.seq (.region [⟨some 77, none, .mov (.t 0), []⟩,
    ⟨some 78, none, .load true 7 (.t 6), []⟩,
    ⟨some 79, none, .call 95 [(.t 77), (.t 78)], []⟩])
  (.seq (.region [⟨some 4, none, .mov (.c .nil), []⟩,
    ⟨some 5, none, .mov (.c (.int .i64 0)), []⟩])
  .ret))
  .skip))
  fn79u4))
def fn79u6 : Cd := (.seq (.seq (.draw (.pre [⟨some 25, none, .mov (.t 0), []⟩,
    ⟨some 26, none, .nilck (.t 25), []⟩,
    ⟨some 27, none, .faddr (.t 26) 0, []⟩,
    ⟨some 28, none, .faddr (.t 27) 0, []⟩,
    ⟨some 29, none, .load false 1 (.t 28), []⟩,
    ⟨some 30, none, .un .not (.t 29), []⟩,
    ⟨some 31, none, .mov (.t 30), []⟩,
    ⟨some 32, (some (31, false)), .faddr (.t 6) 1, []⟩,
    ⟨some 33, (some (31, false)), .load false 1 (.t 32), []⟩,
    ⟨some 34, (some (31, false)), .mov (.t 0), []⟩,
    ⟨some 35, (some (31, false)), .nilck (.t 34), []⟩,
    ⟨some 36, (some (31, false)), .faddr (.t 35) 8, []⟩,
    ⟨some 37, (some (31, false)), .load false 1 (.t 36), []⟩,
    ⟨some 38, (some (31, false)), .bin .neq (.t 33) (.t 37), []⟩,
    ⟨some 39, none, .pick (.t 31) (.c (.bool true)) (.t 38), []⟩,
    ⟨some 40, none, .mov (.t 39), []⟩,
    ⟨some 41, (some (40, false)), .faddr (.t 6) 2, []⟩,
    ⟨some 42, (some (40, false)), .load false 1 (.t 41), []⟩,
    ⟨some 43, (some (40, false)), .mov (.t 0), []⟩,
    ⟨some 44, (some (40, false)), .nilck (.t 43), []⟩,
    ⟨some 45, (some (40, false)), .faddr (.t 44) 7, []⟩,
    ⟨some 46, (some (40, false)), .load false 1 (.t 45), []⟩,
    ⟨some 47, (some (40, false)), .bin .neq (.t 42) (.t 46), []⟩,
    ⟨some 48, none, .pick (.t 40) (.c (.bool true)) (.t 47), []⟩]
  .done))
  fn79u3)
  fn79u5)
def fn79u7 : Cd := (.seq (.seq (.region [⟨some 19, none, .faddr (.t 6) 0, []⟩,
    ⟨some 20, none, .load false 1 (.t 19), []⟩,
    ⟨some 21, none, .bin .eql (.t 20) (.c (.int .i64 1)), []⟩])
  (.cond (.t 21) (.seq (.region [⟨some 22, none, .mov (.t 0), []⟩,
    ⟨some 23, none, .load true 7 (.t 6), []⟩,
    ⟨some 24, none, .call 94 [(.t 22), (.t 23)], []⟩])
  (.seq (.region [⟨some 4, none, .mov (.c .nil), []⟩,
    ⟨some 5, none, .mov (.c (.int .i64 0)), []⟩])
  .ret))
  .skip))
  fn79u6)
def fn79u8 : Cd := (.seq (.region [⟨some 12, none, .mov (.t 1), []⟩,
    ⟨some 13, none, .call 93 [(.t 12)], []⟩,
    ⟨some 11, none, .mov (.t 13), []⟩,
    ⟨some 14, none, .extract (.t 11) 0, []⟩,
    ⟨some 15, none, .extract (.t 11) 1, []⟩,
    ⟨some 6, none, .box 134 7 (.c (.agg [(.int .i64 0), (.int .i64 0), (.int .i64 0), (.int .i64 0), (.int .i64 0), (.int .i64 0), .nil])), []⟩,
    ⟨none, none, .store 7 (.t 6) (.t 14), []⟩,
    ⟨some 7, none, .mov (.t 15), []⟩])
  (.seq (.seq (.region [⟨some 16, none, .mov (.t 7), []⟩,
    ⟨some 17, none, .bin .neq (.t 16) (.c (.int .i64 0)), []⟩])
  (.cond (.t 17) (.seq (.region [⟨some 18, none, .mov (.t 7), []⟩,
    ⟨some 4, none, .mov (.c .nil), []⟩,
    ⟨some 5, none, .mov (.t 18), []⟩])
  .ret)
  .skip))
  fn79u7))
def fn79 : Fn0 := ⟨2, (.seq (.region [⟨some 4, none, .mov (.c .nil), []⟩,
    ⟨some 5, none, .mov (.c (.int .i64 0)), []⟩])
  (.seq (.seq (.region [⟨some 8, none, .mov (.t 0), []⟩,
    ⟨some 9, none, .call 59 [(.t 8)], []⟩,
    ⟨some 10, none, .un .not (.t 9), []⟩])
  (.cond (.t 10) (.seq (.region [⟨some 4, none, .mov (.c .nil), []⟩,
    ⟨some 5, none, .mov (.c (.int .i64 6)), []⟩])
  .ret)
  .skip))
  fn79u8)),
  [.tmp 4, .tmp 5]⟩
theorem fn79uis : cFn Tryd.prog 79 = some fn79 := by kernel_rfl

/- (*flume/tunnel.Tunnel).end -/
def fn80 : Fn0 := ⟨1, (.seq (.region [⟨some 2, none, .mov (.t 0), []⟩,
    ⟨some 3, none, .build [(.bool false), (.int .i64 0), (.int .i64 0), .nil, .nil, (.int .i64 0), .nilm] [], []⟩,
    ⟨some 4, none, .nilck (.t 2), []⟩,
    ⟨some 5, none, .faddr (.t 4) 0, []⟩,
    ⟨none, none, .store 7 (.t 5) (.t 3), []⟩])
  (.seq (.region [⟨some 6, none, .mov (.t 0), []⟩,
    ⟨some 7, none, .mov (.t 0), []⟩,
    ⟨some 8, none, .nilck (.t 7), []⟩,
    ⟨some 9, none, .faddr (.t 8) 7, []⟩,
    ⟨some 10, none, .load false 1 (.t 9), []⟩,
    ⟨some 11, none, .bin .add (.t 10) (.c (.int .i64 1)), []⟩,
    ⟨some 12, none, .minmax false (.t 11) (.c (.int .i64 1099511627776)), []⟩,
    ⟨some 13, none, .nilck (.t 6), []⟩,
    ⟨some 14, none, .faddr (.t 13) 7, []⟩,
    ⟨none, none, .store 1 (.t 14) (.t 12), []⟩])
  (.region [⟨some 15, none, .mov (.t 0), []⟩,
    ⟨some 16, none, .nilck (.t 15), []⟩,
    ⟨some 17, none, .faddr (.t 16) 9, []⟩,
    ⟨some 18, none, .load false 1 (.t 17), []⟩,
    ⟨some 19, none, .bin .add (.t 18) (.c (.int .i64 1)), []⟩,
    ⟨some 20, none, .nilck (.t 15), []⟩,
    ⟨some 21, none, .faddr (.t 20) 9, []⟩,
    ⟨none, none, .store 1 (.t 21) (.t 19), []⟩]))),
  []⟩
theorem fn80uis : cFn Tryd.prog 80 = some fn80 := by kernel_rfl

/- slices.Clone[[]flume/tunnel.sent,flume/tunnel.sent] -/
def fn81u1 : Cd := (.seq (.region [⟨some 5, none, .mov (.c .nil), []⟩,
    ⟨some 6, none, .mov (.t 0), []⟩,
    ⟨some 7, none, .append 140 3 40 (.t 5) (.t 6), []⟩,
    ⟨some 2, none, .mov (.t 7), []⟩])
  .ret)
def fn81 : Fn0 := ⟨1, (.seq (.region [⟨some 2, none, .mov (.c .nil), []⟩])
  (.seq (.seq (.region [⟨some 3, none, .mov (.t 0), []⟩,
    ⟨some 4, none, .isnil false (.t 3), []⟩])
  (.cond (.t 4) (.seq (.region [⟨some 2, none, .mov (.c .nil), []⟩])
  .ret)
  .skip))
  fn81u1)),
  [.tmp 2]⟩
theorem fn81uis : cFn Tryd.prog 81 = some fn81 := by kernel_rfl

/- flume/tunnel.Put -/
def fn92u1 : Cd := (.seq (.region [⟨some 11, none, .bslice 5 1 (.int .u8 0) 1 [(0, (.c (.int .u8 85)))], []⟩,
    ⟨some 12, none, .faddr (.t 1) 0, []⟩,
    ⟨some 13, none, .load false 1 (.t 12), []⟩,
    ⟨some 14, none, .faddr (.t 1) 1, []⟩,
    ⟨some 15, none, .load false 1 (.t 14), []⟩,
    ⟨some 16, none, .faddr (.t 1) 2, []⟩,
    ⟨some 17, none, .load false 1 (.t 16), []⟩,
    ⟨some 18, none, .faddr (.t 1) 3, []⟩,
    ⟨some 19, none, .load false 1 (.t 18), []⟩,
    ⟨some 20, none, .faddr (.t 1) 4, []⟩,
    ⟨some 21, none, .load false 1 (.t 20), []⟩,
    ⟨some 22, none, .faddr (.t 1) 5, []⟩,
    ⟨some 23, none, .load false 1 (.t 22), []⟩,
    ⟨some 24, none, .bslice 3 1 (.int .i64 0) 6 [(0, (.t 13)), (1, (.t 15)), (2, (.t 17)), (3, (.t 19)), (4, (.t 21)), (5, (.t 23))], []⟩,
    ⟨some 25, none, .call 105 [(.t 11), (.t 24)], []⟩,
    ⟨some 5, none, .mov (.t 25), []⟩])
  (.seq (.region [⟨some 26, none, .mov (.t 5), []⟩,
    ⟨some 27, none, .faddr (.t 1) 6, []⟩,
    ⟨some 28, none, .load false 1 (.t 27), []⟩,
    ⟨some 29, none, .call 107 [(.t 26), (.t 28)], []⟩,
    ⟨some 30, none, .call 106 [(.t 29)], []⟩,
    ⟨some 2, none, .mov (.t 30), []⟩,
    ⟨some 3, none, .mov (.c (.int .i64 0)), []⟩])
  .ret))
def fn92 : Fn0 := ⟨1, (.seq (.region [⟨some 1, none, .box 134 7 (.t 0), []⟩,
    ⟨some 2, none, .mov (.c .nil), []⟩,
    ⟨some 3, none, .mov (.c (.int .i64 0)), []⟩])
  (.seq (.seq (.region [⟨some 6, none, .load true 7 (.t 1), []⟩,
    ⟨some 7, none, .call 104 [(.t 6)], []⟩,
    ⟨some 4, none, .mov (.t 7), []⟩])
  (.seq (.region [⟨some 8, none, .mov (.t 4), []⟩,
    ⟨some 9, none, .bin .neq (.t 8) (.c (.int .i64 0)), []⟩])
  (.cond (.t 9) (.seq (.region [⟨some 10, none, .mov (.t 4), []⟩,
    ⟨some 2, none, .mov (.c .nil), []⟩,
    ⟨some 3, none, .mov (.t 10), []⟩])
  .ret)
  .skip)))
  fn92u1)),
  [.tmp 2, .tmp 3]⟩
theorem fn92uis : cFn Tryd.prog 92 = some fn92 := by kernel_rfl

/- flume/tunnel.Get -/
def fn93u1 : Cd := (.cond (.t 22) (.seq (.region [⟨some 32, none, .build [(.int .i64 0), (.int .i64 0), (.int .i64 0), (.int .i64 0), (.int .i64 0), (.int .i64 0), .nil] [], []⟩,
    ⟨none, none, .store 7 (.t 2) (.t 32), []⟩,
    ⟨some 3, none, .mov (.c (.int .i64 120)), []⟩])
  .ret)
  .skip)
def fn93u2 : Cd := (.region [⟨some 56, none, .mov (.t 9), []⟩,
    ⟨some 57, none, .mov (.t 10), []⟩,
    ⟨some 58, none, .nilck (.t 56), []⟩,
    ⟨none, none, .store 1 (.t 58) (.t 57), []⟩])
def fn93u3 : Cd := (.region [⟨some 59, none, .bin .add (.t 44) (.c (.int .i64 1)), []⟩,
    ⟨some 44, none, .mov (.t 59), []⟩])
def fn93u4 : Cd := (.seq (.block 2 (.seq (.region [⟨some 46, none, .iaddr 1 (.t 42) (.t 44), []⟩,
    ⟨some 47, none, .load false 1 (.t 46), []⟩,
    ⟨some 9, none, .mov (.t 47), []⟩])
  (.seq (.region [⟨some 49, none, .mov (.t 7), []⟩,
    ⟨some 50, none, .call 110 [(.t 49)], []⟩,
    ⟨some 48, none, .mov (.t 50), []⟩,
    ⟨some 51, none, .extract (.t 48) 0, []⟩,
    ⟨some 52, none, .extract (.t 48) 1, []⟩,
    ⟨some 10, none, .mov (.t 51), []⟩,
    ⟨some 11, none, .mov (.t 52), []⟩])
  (.seq (.seq (.region [⟨some 53, none, .mov (.t 11), []⟩,
    ⟨some 54, none, .bin .neq (.t 53) (.c (.int .i64 0)), []⟩])
  (.cond (.t 54) (.seq (.region [⟨some 55, none, .build [(.int .i64 0), (.int .i64 0), (.int .i64 0), (.int .i64 0), (.int .i64 0), (.int .i64 0), .nil] [], []⟩,
    ⟨none, none, .store 7 (.t 2) (.t 55), []⟩,
    ⟨some 3, none, .mov (.c (.int .i64 120)), []⟩])
  .ret)
  .skip))
  fn93u2))))
  fn93u3)
def fn93u5 : Cd := (.seq (.region [⟨some 45, none, .bin .lss (.t 44) (.t 43), []⟩])
  (.seq (.cond (.t 45) .skip
  (.exit 1))
  fn93u4))
def fn93u6 : Cd := (.cond (.t 77) (.seq (.region [⟨some 78, none, .build [(.int .i64 0), (.int .i64 0), (.int .i64 0), (.int .i64 0), (.int .i64 0), (.int .i64 0), .nil] [], []⟩,
    ⟨none, none, .store 7 (.t 2) (.t 78), []⟩,
    ⟨some 3, none, .mov (.c (.int .i64 120)), []⟩])
  .ret)
  .skip)
def fn93u7 : Cd := (.seq (.region [⟨some 79, none, .load true 7 (.t 6), []⟩,
    ⟨none, none, .store 7 (.t 2) (.t 79), []⟩,
    ⟨some 3, none, .mov (.c (.int .i64 0)), []⟩])
  .ret)
def fn93u8 : Cd := (.seq (.region [⟨some 61, none, .mov (.t 7), []⟩,
    ⟨some 62, none, .call 111 [(.t 61), (.c (.int .i64 512))], []⟩,
    ⟨some 60, none, .mov (.t 62), []⟩,
    ⟨some 63, none, .extract (.t 60) 0, []⟩,
    ⟨some 64, none, .extract (.t 60) 1, []⟩,
    ⟨some 65, none, .faddr (.t 6) 6, []⟩,
    ⟨none, none, .store 1 (.t 65) (.t 63), []⟩,
    ⟨some 5, none, .mov (.t 64), []⟩])
  (.seq (.seq (.region [⟨some 66, none, .mov (.t 5), []⟩,
    ⟨some 67, none, .bin .neq (.t 66) (.c (.int .i64 0)), []⟩,
    ⟨some 68, none, .mov (.t 67), []⟩,
    ⟨some 69, (some (68, false)), .mov (.t 7), []⟩,
    ⟨some 70, (some (68, false)), .call 112 [(.t 69)], []⟩,
    ⟨some 71, (some (68, false)), .bin .neq (.t 70) (.c (.int .i64 0)), []⟩,
    ⟨some 72, none, .pick (.t 68) (.c (.bool true)) (.t 71), []⟩,
    ⟨some 73, none, .mov (.t 72), []⟩,
    ⟨some 74, (some (73, false)), .load true 7 (.t 6), []⟩,
    ⟨some 75, (some (73, false)), .call 104 [(.t 74)], []⟩,
    ⟨some 76, (some (73, false)), .bin .neq (.t 75) (.c (.int .i64 0)), []⟩,
    ⟨some 77, none, .pick (.t 73) (.c (.bool true)) (.t 76), []⟩])
  fn93u6)
  fn93u7))
def fn93u9 : Cd := (.seq (.region [⟨some 6, none, .box 134 7 (.c (.agg [(.int .i64 0), (.int .i64 0), (.int .i64 0), (.int .i64 0), (.int .i64 0), (.int .i64 0), .nil])), []⟩])
  (.seq (.region [⟨some 33, none, .mov (.t 4), []⟩,
    ⟨some 34, none, .slice 1 (.t 33) (some (.c (.int .i64 1))) none none, []⟩,
    ⟨some 35, none, .call 109 [(.t 34)], []⟩,
    ⟨some 7, none, .mov (.t 35), []⟩])
  (.seq (.seq (.region [⟨some 36, none, .faddr (.t 6) 0, []⟩,
    ⟨some 37, none, .faddr (.t 6) 1, []⟩,
    ⟨some 38, none, .faddr (.t 6) 2, []⟩,
    ⟨some 39, none, .faddr (.t 6) 3, []⟩,
    ⟨some 40, none, .faddr (.t 6) 4, []⟩,
    ⟨some 41, none, .faddr (.t 6) 5, []⟩,
    ⟨some 42, none, .bslice 174 1 .nilp 6 [(0, (.t 36)), (1, (.t 37)), (2, (.t 38)), (3, (.t 39)), (4, (.t 40)), (5, (.t 41))], []⟩,
    ⟨some 43, none, .len (.t 42), []⟩,
    ⟨some 44, none, .mov (.c (.int .i64 0)), []⟩])
  (.block 1 (.loop fn93u5)))
  fn93u8)))
def fn93 : Fn0 := ⟨1, (.seq (.region [⟨some 2, none, .box 134 7 (.c (.agg [(.int .i64 0), (.int .i64 0), (.int .i64 0), (.int .i64 0), (.int .i64 0), (.int .i64 0), .nil])), []⟩,
    ⟨some 3, none, .mov (.c (.int .i64 0)), []⟩])
  (.seq (.region [⟨some 13, none, .mov (.t 0), []⟩,
    ⟨some 14, none, .call 108 [(.t 13)], []⟩,
    ⟨some 12, none, .mov (.t 14), []⟩,
    ⟨some 15, none, .extract (.t 12) 0, []⟩,
    ⟨some 16, none, .extract (.t 12) 1, []⟩,
    ⟨some 4, none, .mov (.t 15), []⟩,
    ⟨some 5, none, .mov (.t 16), []⟩])
  (.seq (.block 0 (.seq (.region [⟨some 18, none, .mov (.t 5), []⟩,
    ⟨some 19, none, .bin .neq (.t 18) (.c (.int .i64 0)), []⟩,
    ⟨some 17, none, .mov (.t 19), []⟩])
  (.cond (.t 17) (.seq (.region [⟨some 20, none, .build [(.int .i64 0), (.int .i64 0), (.int .i64 0), (.int .i64 0), (.int .i64 0), (.int .i64 0), .nil] [], []⟩,
    ⟨some 21, none, .mov (.t 5), []⟩,
    ⟨none, none, .store 7 (.t 2) (.t 20), []⟩,
    ⟨some 3, none, .mov (.t 21), []⟩])
  .ret)
  (.seq (.region [⟨some 23, none, .mov (.t 4), []⟩,
    ⟨some 24, none, .len (.t 23), []⟩,
    ⟨some 25, none, .bin .eql (.t 24) (.c (.int .i64 0)), []⟩,
    ⟨some 26, none, .mov (.t 25), []⟩,
    ⟨some 27, (some (26, false)), .mov (.t 4), []⟩,
    ⟨some 28, (some (26, false)), .iaddr 1 (.t 27) (.c (.int .i64 0)), []⟩,
    ⟨some 29, (some (26, false)), .load false 1 (.t 28), []⟩,
    ⟨some 30, (some (26, false)), .bin .neq (.t 29) (.c (.int .u8 85)), []⟩,
    ⟨some 31, none, .pick (.t 26) (.c (.bool true)) (.t 30), []⟩,
    ⟨some 22, none, .mov (.t 31), []⟩])
  fn93u1))))
  fn93u9))),
  [.cell 2 true 7, .tmp 3]⟩
theorem fn93uis : cFn Tryd.prog 93 = some fn93 := by kernel_rfl

/- (*flume/tunnel.Tunnel).hello -/
def fn94u1 : Cd := (.cond (.t 24) (.region [⟨some 49, none, .mov (.t 0), []⟩,
    ⟨some 50, none, .faddr (.t 3) 1, []⟩,
    ⟨some 51, none, .load false 1 (.t 50), []⟩,
    ⟨some 52, none, .call 113 [(.t 49), (.t 51)], []⟩])
  (.seq (.draw (.pre [⟨some 54, none, .faddr (.t 3) 1, []⟩,
    ⟨some 55, none, .load false 1 (.t 54), []⟩,
    ⟨some 56, none, .mov (.t 0), []⟩,
    ⟨some 57, none, .nilck (.t 56), []⟩,
    ⟨some 58, none, .faddr (.t 57) 8, []⟩,
    ⟨some 59, none, .load false 1 (.t 58), []⟩,
    ⟨some 60, none, .bin .eql (.t 55) (.t 59), []⟩,
    ⟨some 53, none, .mov (.t 60), []⟩]
  .done))
  (.cond (.t 53) (.region [⟨some 61, none, .mov (.t 0), []⟩,
    ⟨some 62, none, .nilck (.t 61), []⟩,
    ⟨some 63, none, .faddr (.t 62) 0, []⟩,
    ⟨some 64, none, .faddr (.t 63) 1, []⟩,
    ⟨none, none, .store 1 (.t 64) (.c (.int .i64 0)), []⟩])
  .skip)))
def fn94 : Fn0 := ⟨2, (.seq (.region [⟨some 3, none, .box 134 7 (.t 1), []⟩])
  (.block 0 (.seq (.draw (.pre [⟨some 5, none, .faddr (.t 3) 2, []⟩,
    ⟨some 6, none, .load false 1 (.t 5), []⟩,
    ⟨some 7, none, .mov (.t 0), []⟩,
    ⟨some 8, none, .nilck (.t 7), []⟩,
    ⟨some 9, none, .faddr (.t 8) 7, []⟩,
    ⟨some 10, none, .load false 1 (.t 9), []⟩,
    ⟨some 11, none, .bin .neq (.t 6) (.t 10), []⟩,
    ⟨some 4, none, .mov (.t 11), []⟩]
  .done))
  (.cond (.t 4) (.seq (.draw (.pre [⟨some 12, none, .faddr (.t 3) 1, []⟩,
    ⟨some 13, none, .load false 1 (.t 12), []⟩,
    ⟨some 14, none, .mov (.t 0), []⟩,
    ⟨some 15, none, .nilck (.t 14), []⟩,
    ⟨some 16, none, .faddr (.t 15) 8, []⟩,
    ⟨some 17, none, .load false 1 (.t 16), []⟩,
    ⟨some 18, none, .bin .geq (.t 13) (.t 17), []⟩]
  .done))
  (.cond (.t 18) (.region [⟨some 19, none, .mov (.t 0), []⟩,
    ⟨some 20, none, .faddr (.t 3) 1, []⟩,
    ⟨some 21, none, .load false 1 (.t 20), []⟩,
    ⟨some 22, none, .build [(.int .i64 0), (.int .i64 0), (.int .i64 0), (.int .i64 0), (.int .i64 0), (.int .i64 0), .nil] [(0, 1, (.c (.int .i64 1))), (2, 1, (.t 21))], []⟩,
    ⟨some 23, none, .call 77 [(.t 19), (.t 22)], []⟩])
  .skip))
  (.seq (.draw (.pre [⟨some 25, none, .faddr (.t 3) 1, []⟩,
    ⟨some 26, none, .load false 1 (.t 25), []⟩,
    ⟨some 27, none, .mov (.t 0), []⟩,
    ⟨some 28, none, .nilck (.t 27), []⟩,
    ⟨some 29, none, .faddr (.t 28) 8, []⟩,
    ⟨some 30, none, .load false 1 (.t 29), []⟩,
    ⟨some 31, none, .bin .gtr (.t 26) (.t 30), []⟩,
    ⟨some 32, none, .mov (.t 31), []⟩,
    ⟨some 33, (some (32, false)), .faddr (.t 3) 1, []⟩,
    ⟨some 34, (some (32, false)), .load false 1 (.t 33), []⟩,
    ⟨some 35, (some (32, false)), .mov (.t 0), []⟩,
    ⟨some 36, (some (32, false)), .nilck (.t 35), []⟩,
    ⟨some 37, (some (32, false)), .faddr (.t 36) 8, []⟩,
    ⟨some 38, (some (32, false)), .load false 1 (.t 37), []⟩,
    ⟨some 39, (some (32, false)), .bin .eql (.t 34) (.t 38), []⟩,
    ⟨some 40, (some (32, false)), .mov (.t 39), []⟩,
    ⟨some 41, (some (40, true)), .mov (.t 0), []⟩,
    ⟨some 42, (some (40, true)), .nilck (.t 41), []⟩,
    ⟨some 43, (some (40, true)), .faddr (.t 42) 0, []⟩,
    ⟨some 44, (some (40, true)), .faddr (.t 43) 0, []⟩,
    ⟨some 45, (some (40, true)), .load false 1 (.t 44), []⟩,
    ⟨some 46, (some (40, true)), .un .not (.t 45), []⟩,
    ⟨some 47, (some (32, false)), .pick (.t 40) (.t 46) (.c (.bool false)), []⟩,
    ⟨some 48, none, .pick (.t 32) (.c (.bool true)) (.t 47), []⟩,
    ⟨some 24, none, .mov (.t 48), []⟩]
  .done))
  fn94u1))))),
  []⟩
theorem fn94uis : cFn Tryd.prog 94 = some fn94 := by kernel_rfl

/- (*flume/tunnel.Tunnel).ack -/
def fn95 : Fn0 := ⟨2, (.seq (.region [⟨some 3, none, .box 134 7 (.t 1), []⟩])
  (.seq (.region [⟨some 4, none, .mov (.t 0), []⟩,
    ⟨some 5, none, .mov (.t 0), []⟩,
    ⟨some 6, none, .nilck (.t 5), []⟩,
    ⟨some 7, none, .faddr (.t 6) 0, []⟩,
    ⟨some 8, none, .faddr (.t 7) 3, []⟩,
    ⟨some 9, none, .load false 1 (.t 8), []⟩,
    ⟨some 10, none, .call 81 [(.t 9)], []⟩,
    ⟨some 11, none, .mkfn 115 [(.t 3)], []⟩,
    ⟨some 12, none, .call 114 [(.t 10), (.t 11)], []⟩,
    ⟨some 13, none, .nilck (.t 4), []⟩,
    ⟨some 14, none, .faddr (.t 13) 0, []⟩,
    ⟨some 15, none, .faddr (.t 14) 3, []⟩,
    ⟨none, none, .store 1 (.t 15) (.t 12), []⟩])
  (.region [⟨some 16, none, .mov (.t 0), []⟩,
    ⟨some 17, none, .call 76 [(.t 16)], []⟩]))),
  []⟩
theorem fn95uis : cFn Tryd.prog 95 = some fn95 := by kernel_rfl

/- (*flume/tunnel.Tunnel).data -/
def fn96u1 : Cd := (.cond (.t 30) (.draw (.pre [⟨some 31, none, .mov (.t 0), []⟩,
    ⟨some 32, none, .nilck (.t 31), []⟩,
    ⟨some 33, none, .faddr (.t 32) 0, []⟩,
    ⟨some 34, none, .faddr (.t 33) 6, []⟩,
    ⟨some 35, none, .load false 1 (.t 34), []⟩,
    ⟨some 36, none, .faddr (.t 3) 3, []⟩,
    ⟨some 37, none, .load false 1 (.t 36), []⟩,
    ⟨some 38, none, .faddr (.t 3) 6, []⟩,
    ⟨some 39, none, .load false 1 (.t 38), []⟩]
  (.act ⟨none, none, .mupd none (.t 35) (.t 37) (.t 39), []⟩
  .done)))
  .skip)
def fn96u2 : Cd := (.seq (.draw (.pre [⟨some 57, none, .mov (.t 0), []⟩,
    ⟨some 58, none, .nilck (.t 57), []⟩,
    ⟨some 59, none, .faddr (.t 58) 0, []⟩,
    ⟨some 60, none, .faddr (.t 59) 6, []⟩,
    ⟨some 61, none, .load false 1 (.t 60), []⟩,
    ⟨some 62, none, .mov (.t 0), []⟩,
    ⟨some 63, none, .nilck (.t 62), []⟩,
    ⟨some 64, none, .faddr (.t 63) 0, []⟩,
    ⟨some 65, none, .faddr (.t 64) 5, []⟩,
    ⟨some 66, none, .load false 1 (.t 65), []⟩,
    ⟨some 67, none, .bin .add (.t 66) (.c (.int .i64 1)), []⟩]
  (.act ⟨none, none, .delete none (.t 61) (.t 67), []⟩
  .done)))
  (.seq (.region [⟨some 68, none, .mov (.t 0), []⟩,
    ⟨some 69, none, .nilck (.t 68), []⟩,
    ⟨some 70, none, .faddr (.t 69) 0, []⟩,
    ⟨some 71, none, .faddr (.t 70) 5, []⟩,
    ⟨some 72, none, .load false 1 (.t 71), []⟩,
    ⟨some 73, none, .bin .add (.t 72) (.c (.int .i64 1)), []⟩,
    ⟨some 74, none, .nilck (.t 68), []⟩,
    ⟨some 75, none, .faddr (.t 74) 0, []⟩,
    ⟨some 76, none, .faddr (.t 75) 5, []⟩,
    ⟨none, none, .store 1 (.t 76) (.t 73), []⟩])
  (.region [⟨some 77, none, .mov (.t 5), []⟩,
    ⟨some 78, none, .mov (.t 6), []⟩,
    ⟨some 79, none, .bslice 27 1 .nil 1 [(0, (.t 78))], []⟩,
    ⟨some 80, none, .append 27 1 24 (.t 77) (.t 79), []⟩,
    ⟨some 5, none, .mov (.t 80), []⟩])))
def fn96u3 : Cd := (.block 1 (.seq (.draw (.pre [⟨some 41, none, .mov (.t 0), []⟩,
    ⟨some 42, none, .nilck (.t 41), []⟩,
    ⟨some 43, none, .faddr (.t 42) 0, []⟩,
    ⟨some 44, none, .faddr (.t 43) 6, []⟩,
    ⟨some 45, none, .load false 1 (.t 44), []⟩,
    ⟨some 46, none, .mov (.t 0), []⟩,
    ⟨some 47, none, .nilck (.t 46), []⟩,
    ⟨some 48, none, .faddr (.t 47) 0, []⟩,
    ⟨some 49, none, .faddr (.t 48) 5, []⟩,
    ⟨some 50, none, .load false 1 (.t 49), []⟩,
    ⟨some 51, none, .bin .add (.t 50) (.c (.int .i64 1)), []⟩,
    ⟨some 52, none, .lookup none .nil (.t 45) (.t 51) true, []⟩,
    ⟨some 40, none, .mov (.t 52), []⟩,
    ⟨some 53, none, .extract (.t 40) 0, []⟩,
    ⟨some 54, none, .extract (.t 40) 1, []⟩,
    ⟨some 6, none, .mov (.t 53), []⟩,
    ⟨some 7, none, .mov (.t 54), []⟩]
  .done))
  (.seq (.seq (.region [⟨some 55, none, .mov (.t 7), []⟩,
    ⟨some 56, none, .un .not (.t 55), []⟩])
  (.cond (.t 56) (.exit 0)
  .skip))
  fn96u2)))
def fn96u4 : Cd := (.region [⟨some 106, none, .bin .add (.t 81) (.c (.int .i64 1)), []⟩,
    ⟨some 81, none, .mov (.t 106), []⟩])
def fn96u5 : Cd := (.seq (.block 3 (.seq (.region [⟨some 83, none, .mov (.t 81), []⟩,
    ⟨some 9, none, .mov (.t 83), []⟩])
  (.seq (.draw (.pre [⟨some 85, none, .mov (.t 0), []⟩,
    ⟨some 86, none, .nilck (.t 85), []⟩,
    ⟨some 87, none, .faddr (.t 86) 0, []⟩,
    ⟨some 88, none, .faddr (.t 87) 6, []⟩,
    ⟨some 89, none, .load false 1 (.t 88), []⟩,
    ⟨some 90, none, .mov (.t 0), []⟩,
    ⟨some 91, none, .nilck (.t 90), []⟩,
    ⟨some 92, none, .faddr (.t 91) 0, []⟩,
    ⟨some 93, none, .faddr (.t 92) 5, []⟩,
    ⟨some 94, none, .load false 1 (.t 93), []⟩,
    ⟨some 95, none, .bin .add (.t 94) (.c (.int .i64 1)), []⟩,
    ⟨some 96, none, .mov (.t 9), []⟩,
    ⟨some 97, none, .bin .add (.t 95) (.t 96), []⟩,
    ⟨some 98, none, .lookup none .nil (.t 89) (.t 97) true, []⟩,
    ⟨some 84, none, .mov (.t 98), []⟩,
    ⟨some 99, none, .extract (.t 84) 0, []⟩,
    ⟨some 100, none, .extract (.t 84) 1, []⟩,
    ⟨some 10, none, .mov (.t 99), []⟩,
    ⟨some 11, none, .mov (.t 100), []⟩]
  .done))
  (.seq (.region [⟨some 101, none, .mov (.t 11), []⟩])
  (.cond (.t 101) (.region [⟨some 102, none, .mov (.t 8), []⟩,
    ⟨some 103, none, .mov (.t 9), []⟩,
    ⟨some 104, none, .bin .shl (.c (.int .i64 1)) (.t 103), []⟩,
    ⟨some 105, none, .bin .or (.t 102) (.t 104), []⟩,
    ⟨some 8, none, .mov (.t 105), []⟩])
  .skip)))))
  fn96u4)
def fn96u6 : Cd := (.seq (.region [⟨some 82, none, .bin .lss (.t 81) (.c (.int .i64 16)), []⟩])
  (.seq (.cond (.t 82) .skip
  (.exit 2))
  fn96u5))
def fn96u7 : Cd := (.seq (.draw (.pre [⟨some 107, none, .mov (.t 0), []⟩,
    ⟨some 108, none, .mov (.t 0), []⟩,
    ⟨some 109, none, .nilck (.t 108), []⟩,
    ⟨some 110, none, .faddr (.t 109) 8, []⟩,
    ⟨some 111, none, .load false 1 (.t 110), []⟩,
    ⟨some 112, none, .mov (.t 0), []⟩,
    ⟨some 113, none, .nilck (.t 112), []⟩,
    ⟨some 114, none, .faddr (.t 113) 0, []⟩,
    ⟨some 115, none, .faddr (.t 114) 5, []⟩,
    ⟨some 116, none, .load false 1 (.t 115), []⟩,
    ⟨some 117, none, .mov (.t 8), []⟩,
    ⟨some 118, none, .build [(.int .i64 0), (.int .i64 0), (.int .i64 0), (.int .i64 0), (.int .i64 0), (.int .i64 0), .nil] [(0, 1, (.c (.int .i64 3))), (2, 1, (.t 111)), (4, 1, (.t 116)), (5, 1, (.t 117))], []⟩]
  (.act ⟨some 119, none, .call 77 [(.t 107), (.t 118)], []⟩
  .done)))
  (.seq (.region [⟨some 120, none, .mov (.t 5), []⟩,
    ⟨some 4, none, .mov (.t 120), []⟩])
  .ret))
def fn96u8 : Cd := (.seq (.region [⟨some 8, none, .mov (.c (.int .i64 0)), []⟩])
  (.seq (.seq (.region [⟨some 81, none, .mov (.c (.int .i64 0)), []⟩])
  (.block 2 (.loop fn96u6)))
  fn96u7))
def fn96u9 : Cd := (.seq (.block 0 (.loop fn96u3))
  fn96u8)
def fn96 : Fn0 := ⟨2, (.seq (.region [⟨some 3, none, .box 134 7 (.t 1), []⟩,
    ⟨some 4, none, .mov (.c .nil), []⟩])
  (.seq (.region [⟨some 5, none, .mov (.c .nil), []⟩])
  (.seq (.seq (.draw (.pre [⟨some 12, none, .faddr (.t 3) 3, []⟩,
    ⟨some 13, none, .load false 1 (.t 12), []⟩,
    ⟨some 14, none, .mov (.t 0), []⟩,
    ⟨some 15, none, .nilck (.t 14), []⟩,
    ⟨some 16, none, .faddr (.t 15) 0, []⟩,
    ⟨some 17, none, .faddr (.t 16) 5, []⟩,
    ⟨some 18, none, .load false 1 (.t 17), []⟩,
    ⟨some 19, none, .bin .gtr (.t 13) (.t 18), []⟩,
    ⟨some 20, none, .mov (.t 19), []⟩,
    ⟨some 21, (some (20, true)), .faddr (.t 3) 3, []⟩,
    ⟨some 22, (some (20, true)), .load false 1 (.t 21), []⟩,
    ⟨some 23, (some (20, true)), .mov (.t 0), []⟩,
    ⟨some 24, (some (20, true)), .nilck (.t 23), []⟩,
    ⟨some 25, (some (20, true)), .faddr (.t 24) 0, []⟩,
    ⟨some 26, (some (20, true)), .faddr (.t 25) 5, []⟩,
    ⟨some 27, (some (20, true)), .load false 1 (.t 26), []⟩,
    ⟨some 28, (some (20, true)), .bin .sub (.t 22) (.t 27), []⟩,
    ⟨some 29, (some (20, true)), .bin .leq (.t 28) (.c (.int .i64 16)), []⟩,
    ⟨some 30, none, .pick (.t 20) (.t 29) (.c (.bool false)), []⟩]
  .done))
  fn96u1)
  fn96u9))),
  [.tmp 4]⟩
theorem fn96uis : cFn Tryd.prog 96 = some fn96 := by kernel_rfl

/- flume/octet.Number -/
def fn100u1 : Cd := (.seq (.block 1 (.region [⟨some 42, none, .mov (.t 8), []⟩,
    ⟨some 43, none, .mov (.t 5), []⟩,
    ⟨some 44, none, .mov (.t 9), []⟩,
    ⟨some 45, none, .bin .mul (.c (.int .i64 8)) (.t 44), []⟩,
    ⟨some 46, none, .bin .shr (.t 43) (.t 45), []⟩,
    ⟨some 47, none, .conv .u8 (.t 46), []⟩,
    ⟨some 48, none, .bslice 5 1 (.int .u8 0) 1 [(0, (.t 47))], []⟩,
    ⟨some 49, none, .append 5 1 1 (.t 42) (.t 48), []⟩,
    ⟨some 8, none, .mov (.t 49), []⟩]))
  (.region [⟨some 40, none, .mov (.t 9), []⟩,
    ⟨some 41, none, .bin .sub (.t 40) (.c (.int .i64 1)), []⟩,
    ⟨some 9, none, .mov (.t 41), []⟩]))
def fn100u2 : Cd := (.seq (.seq (.region [⟨some 38, none, .mov (.t 9), []⟩,
    ⟨some 39, none, .bin .geq (.t 38) (.c (.int .i64 0)), []⟩])
  (.cond (.t 39) .skip
  (.exit 0)))
  fn100u1)
def fn100u3 : Cd := (.seq (.region [⟨some 50, none, .mov (.t 8), []⟩,
    ⟨some 4, none, .mov (.t 50), []⟩])
  .ret)
def fn100u4 : Cd := (.seq (.region [⟨some 27, none, .mov (.t 0), []⟩,
    ⟨some 28, none, .len (.t 27), []⟩,
    ⟨some 29, none, .bin .add (.t 28) (.c (.int .i64 9)), []⟩,
    ⟨some 30, none, .mkslice 5 1 1 (.int .u8 0) (.c (.int .i64 0)) (.t 29), []⟩,
    ⟨some 31, none, .mov (.t 0), []⟩,
    ⟨some 32, none, .append 5 1 1 (.t 30) (.t 31), []⟩,
    ⟨some 33, none, .mov (.t 7), []⟩,
    ⟨some 34, none, .bslice 5 1 (.int .u8 0) 1 [(0, (.t 33))], []⟩,
    ⟨some 35, none, .append 5 1 1 (.t 32) (.t 34), []⟩,
    ⟨some 8, none, .mov (.t 35), []⟩])
  (.seq (.seq (.region [⟨some 36, none, .mov (.t 6), []⟩,
    ⟨some 37, none, .bin .sub (.t 36) (.c (.int .i64 1)), []⟩,
    ⟨some 9, none, .mov (.t 37), []⟩])
  (.block 0 (.loop fn100u2)))
  fn100u3))
def fn100 : Fn0 := ⟨2, (.seq (.region [⟨some 4, none, .mov (.c .nil), []⟩])
  (.seq (.region [⟨some 10, none, .mov (.t 1), []⟩,
    ⟨some 11, none, .minmax true (.t 10) (.c (.int .i64 0)), []⟩,
    ⟨some 12, none, .conv .u64 (.t 11), []⟩,
    ⟨some 5, none, .mov (.t 12), []⟩])
  (.seq (.region [⟨some 13, none, .mov (.t 5), []⟩,
    ⟨some 14, none, .call 119 [(.t 13)], []⟩,
    ⟨some 6, none, .mov (.t 14), []⟩])
  (.seq (.region [⟨some 15, none, .mov (.t 6), []⟩,
    ⟨some 16, none, .bin .sub (.c (.int .i64 8)) (.t 15), []⟩,
    ⟨some 17, none, .bin .shl (.c (.int .u8 255)) (.t 16), []⟩,
    ⟨some 7, none, .mov (.t 17), []⟩])
  (.seq (.seq (.region [⟨some 18, none, .mov (.t 6), []⟩,
    ⟨some 19, none, .bin .lss (.t 18) (.c (.int .i64 8)), []⟩])
  (.cond (.t 19) (.region [⟨some 20, none, .mov (.t 7), []⟩,
    ⟨some 21, none, .mov (.t 5), []⟩,
    ⟨some 22, none, .mov (.t 6), []⟩,
    ⟨some 23, none, .bin .mul (.c (.int .i64 8)) (.t 22), []⟩,
    ⟨some 24, none, .bin .shr (.t 21) (.t 23), []⟩,
    ⟨some 25, none, .conv .u8 (.t 24), []⟩,
    ⟨some 26, none, .bin .or (.t 20) (.t 25), []⟩,
    ⟨some 7, none, .mov (.t 26), []⟩])
  .skip))
  fn100u4))))),
  [.tmp 4]⟩
theorem fn100uis : cFn Tryd.prog 100 = some fn100 := by kernel_rfl

/- flume/tunnel.Check -/
def fn104u1 : Cd := (.cond (.t 100) (.seq (.region [⟨some 2, none, .mov (.c (.int .i64 120)), []⟩])
  .ret)
  .skip)
def fn104u2 : Cd := (.seq (.region [⟨some 2, none, .mov (.c (.int .i64 0)), []⟩])
  .ret)
def fn104u3 : Cd := (.seq (.seq (.region [⟨some 65, none, .mov (.t 3), []⟩,
    ⟨some 66, none, .un .not (.t 65), []⟩,
    ⟨some 67, none, .mov (.t 66), []⟩,
    ⟨some 68, (some (67, false)), .faddr (.t 1) 4, []⟩,
    ⟨some 69, (some (67, false)), .load false 1 (.t 68), []⟩,
    ⟨some 70, (some (67, false)), .bin .lss (.t 69) (.c (.int .i64 0)), []⟩,
    ⟨some 71, none, .pick (.t 67) (.c (.bool true)) (.t 70), []⟩,
    ⟨some 72, none, .mov (.t 71), []⟩,
    ⟨some 73, (some (72, false)), .faddr (.t 1) 4, []⟩,
    ⟨some 74, (some (72, false)), .load false 1 (.t 73), []⟩,
    ⟨some 75, (some (72, false)), .bin .gtr (.t 74) (.c (.int .i64 1099511627776)), []⟩,
    ⟨some 76, none, .pick (.t 72) (.c (.bool true)) (.t 75), []⟩,
    ⟨some 77, none, .mov (.t 76), []⟩,
    ⟨some 78, (some (77, false)), .faddr (.t 1) 5, []⟩,
    ⟨some 79, (some (77, false)), .load false 1 (.t 78), []⟩,
    ⟨some 80, (some (77, false)), .bin .lss (.t 79) (.c (.int .i64 0)), []⟩,
    ⟨some 81, none, .pick (.t 77) (.c (.bool true)) (.t 80), []⟩,
    ⟨some 82, none, .mov (.t 81), []⟩,
    ⟨some 83, (some (82, false)), .faddr (.t 1) 5, []⟩,
    ⟨some 84, (some (82, false)), .load false 1 (.t 83), []⟩,
    ⟨some 85, (some (82, false)), .bin .geq (.t 84) (.c (.int .i64 65536)), []⟩,
    ⟨some 86, none, .pick (.t 82) (.c (.bool true)) (.t 85), []⟩,
    ⟨some 87, none, .mov (.t 86), []⟩,
    ⟨some 88, (some (87, false)), .mov (.t 5), []⟩,
    ⟨some 89, (some (87, false)), .un .not (.t 88), []⟩,
    ⟨some 90, (some (87, false)), .mov (.t 89), []⟩,
    ⟨some 91, (some (90, true)), .faddr (.t 1) 4, []⟩,
    ⟨some 92, (some (90, true)), .load false 1 (.t 91), []⟩,
    ⟨some 93, (some (90, true)), .bin .neq (.t 92) (.c (.int .i64 0)), []⟩,
    ⟨some 94, (some (90, true)), .mov (.t 93), []⟩,
    ⟨some 95, (some (94, false)), .faddr (.t 1) 5, []⟩,
    ⟨some 96, (some (94, false)), .load false 1 (.t 95), []⟩,
    ⟨some 97, (some (94, false)), .bin .neq (.t 96) (.c (.int .i64 0)), []⟩,
    ⟨some 98, (some (90, true)), .pick (.t 94) (.c (.bool true)) (.t 97), []⟩,
    ⟨some 99, (some (87, false)), .pick (.t 90) (.t 98) (.c (.bool false)), []⟩,
    ⟨some 100, none, .pick (.t 87) (.c (.bool true)) (.t 99), []⟩])
  fn104u1)
  fn104u2)
def fn104u4 : Cd := (.seq (.region [⟨some 38, none, .mov (.t 3), []⟩,
    ⟨some 39, none, .mov (.t 38), []⟩,
    ⟨some 40, (some (39, true)), .mov (.t 4), []⟩,
    ⟨some 41, (some (39, true)), .faddr (.t 1) 3, []⟩,
    ⟨some 42, (some (39, true)), .load false 1 (.t 41), []⟩,
    ⟨some 43, (some (39, true)), .bin .gtr (.t 42) (.c (.int .i64 0)), []⟩,
    ⟨some 44, (some (39, true)), .eq false .bool (.t 40) (.t 43), []⟩,
    ⟨some 45, none, .pick (.t 39) (.t 44) (.c (.bool false)), []⟩,
    ⟨some 46, none, .mov (.t 45), []⟩,
    ⟨some 47, (some (46, true)), .faddr (.t 1) 3, []⟩,
    ⟨some 48, (some (46, true)), .load false 1 (.t 47), []⟩,
    ⟨some 49, (some (46, true)), .bin .geq (.t 48) (.c (.int .i64 0)), []⟩,
    ⟨some 50, none, .pick (.t 46) (.t 49) (.c (.bool false)), []⟩,
    ⟨some 51, none, .mov (.t 50), []⟩,
    ⟨some 52, (some (51, true)), .faddr (.t 1) 3, []⟩,
    ⟨some 53, (some (51, true)), .load false 1 (.t 52), []⟩,
    ⟨some 54, (some (51, true)), .bin .leq (.t 53) (.c (.int .i64 1099511627776)), []⟩,
    ⟨some 55, none, .pick (.t 51) (.t 54) (.c (.bool false)), []⟩,
    ⟨some 56, none, .mov (.t 55), []⟩,
    ⟨some 57, (some (56, true)), .mov (.t 4), []⟩,
    ⟨some 58, (some (56, true)), .mov (.t 57), []⟩,
    ⟨some 59, (some (58, false)), .faddr (.t 1) 6, []⟩,
    ⟨some 60, (some (58, false)), .load false 1 (.t 59), []⟩,
    ⟨some 61, (some (58, false)), .len (.t 60), []⟩,
    ⟨some 62, (some (58, false)), .bin .eql (.t 61) (.c (.int .i64 0)), []⟩,
    ⟨some 63, (some (56, true)), .pick (.t 58) (.c (.bool true)) (.t 62), []⟩,
    ⟨some 64, none, .pick (.t 56) (.t 63) (.c (.bool false)), []⟩,
    ⟨some 3, none, .mov (.t 64), []⟩])
  fn104u3)
def fn104u5 : Cd := (.seq (.region [⟨some 4, none, .mov (.c (.bool false)), []⟩,
    ⟨some 5, none, .mov (.c (.bool false)), []⟩])
  (.seq (.seq (.region [⟨some 30, none, .faddr (.t 1) 0, []⟩,
    ⟨some 31, none, .load false 1 (.t 30), []⟩])
  (.block 0 (.seq (.region [⟨some 33, none, .bin .eql (.t 31) (.c (.int .i64 1)), []⟩,
    ⟨some 32, none, .mov (.t 33), []⟩])
  (.cond (.t 32) .skip
  (.seq (.region [⟨some 35, none, .bin .eql (.t 31) (.c (.int .i64 2)), []⟩,
    ⟨some 34, none, .mov (.t 35), []⟩])
  (.cond (.t 34) (.region [⟨some 4, none, .mov (.c (.bool true)), []⟩])
  (.seq (.region [⟨some 37, none, .bin .eql (.t 31) (.c (.int .i64 3)), []⟩,
    ⟨some 36, none, .mov (.t 37), []⟩])
  (.cond (.t 36) (.region [⟨some 5, none, .mov (.c (.bool true)), []⟩])
  (.region [⟨some 3, none, .mov (.c (.bool false)), []⟩])))))))))
  fn104u4))
def fn104 : Fn0 := ⟨1, (.seq (.region [⟨some 1, none, .box 134 7 (.t 0), []⟩,
    ⟨some 2, none, .mov (.c (.int .i64 0)), []⟩])
  (.seq (.region [⟨some 6, none, .faddr (.t 1) 1, []⟩,
    ⟨some 7, none, .load false 1 (.t 6), []⟩,
    ⟨some 8, none, .bin .geq (.t 7) (.c (.int .i64 1)), []⟩,
    ⟨some 9, none, .mov (.t 8), []⟩,
    ⟨some 10, (some (9, true)), .faddr (.t 1) 1, []⟩,
    ⟨some 11, (some (9, true)), .load false 1 (.t 10), []⟩,
    ⟨some 12, (some (9, true)), .bin .leq (.t 11) (.c (.int .i64 1099511627776)), []⟩,
    ⟨some 13, none, .pick (.t 9) (.t 12) (.c (.bool false)), []⟩,
    ⟨some 14, none, .mov (.t 13), []⟩,
    ⟨some 15, (some (14, true)), .faddr (.t 1) 2, []⟩,
    ⟨some 16, (some (14, true)), .load false 1 (.t 15), []⟩,
    ⟨some 17, (some (14, true)), .bin .geq (.t 16) (.c (.int .i64 0)), []⟩,
    ⟨some 18, none, .pick (.t 14) (.t 17) (.c (.bool false)), []⟩,
    ⟨some 19, none, .mov (.t 18), []⟩,
    ⟨some 20, (some (19, true)), .faddr (.t 1) 2, []⟩,
    ⟨some 21, (some (19, true)), .load false 1 (.t 20), []⟩,
    ⟨some 22, (some (19, true)), .bin .leq (.t 21) (.c (.int .i64 1099511627776)), []⟩,
    ⟨some 23, none, .pick (.t 19) (.t 22) (.c (.bool false)), []⟩,
    ⟨some 24, none, .mov (.t 23), []⟩,
    ⟨some 25, (some (24, true)), .faddr (.t 1) 6, []⟩,
    ⟨some 26, (some (24, true)), .load false 1 (.t 25), []⟩,
    ⟨some 27, (some (24, true)), .len (.t 26), []⟩,
    ⟨some 28, (some (24, true)), .bin .leq (.t 27) (.c (.int .i64 512)), []⟩,
    ⟨some 29, none, .pick (.t 24) (.t 28) (.c (.bool false)), []⟩,
    ⟨some 3, none, .mov (.t 29), []⟩])
  fn104u5)),
  [.tmp 2]⟩
theorem fn104uis : cFn Tryd.prog 104 = some fn104 := by kernel_rfl

/- flume/octet.Numbers -/
def fn105u1 : Cd := (.seq (.block 1 (.seq (.region [⟨some 11, none, .iaddr 1 (.t 7) (.t 9), []⟩,
    ⟨some 12, none, .load false 1 (.t 11), []⟩,
    ⟨some 6, none, .mov (.t 12), []⟩])
  (.region [⟨some 13, none, .mov (.t 0), []⟩,
    ⟨some 14, none, .mov (.t 6), []⟩,
    ⟨some 15, none, .call 100 [(.t 13), (.t 14)], []⟩,
    ⟨some 0, none, .mov (.t 15), []⟩])))
  (.region [⟨some 16, none, .bin .add (.t 9) (.c (.int .i64 1)), []⟩,
    ⟨some 9, none, .mov (.t 16), []⟩]))
def fn105u2 : Cd := (.seq (.region [⟨some 10, none, .bin .lss (.t 9) (.t 8), []⟩])
  (.seq (.cond (.t 10) .skip
  (.exit 0))
  fn105u1))
def fn105u3 : Cd := (.seq (.region [⟨some 17, none, .mov (.t 0), []⟩,
    ⟨some 4, none, .mov (.t 17), []⟩])
  .ret)
def fn105 : Fn0 := ⟨2, (.seq (.region [⟨some 4, none, .mov (.c .nil), []⟩])
  (.seq (.seq (.region [⟨some 7, none, .mov (.t 1), []⟩,
    ⟨some 8, none, .len (.t 7), []⟩,
    ⟨some 9, none, .mov (.c (.int .i64 0)), []⟩])
  (.block 0 (.loop fn105u2)))
  fn105u3)),
  [.tmp 4]⟩
theorem fn105uis : cFn Tryd.prog 105 = some fn105 := by kernel_rfl

/- flume/sums.Seal -/
def fn106 : Fn0 := ⟨1, (.seq (.region [⟨some 2, none, .mov (.c .nil), []⟩])
  (.seq (.region [⟨some 5, none, .mov (.t 0), []⟩,
    ⟨some 6, none, .bslice 27 1 .nil 1 [(0, (.t 5))], []⟩,
    ⟨some 7, none, .call 121 [(.t 6)], []⟩,
    ⟨some 3, none, .mov (.t 7), []⟩])
  (.seq (.region [⟨some 8, none, .mov (.t 0), []⟩,
    ⟨some 9, none, .len (.t 8), []⟩,
    ⟨some 10, none, .bin .add (.t 9) (.c (.int .i64 4)), []⟩,
    ⟨some 11, none, .mkslice 5 1 1 (.int .u8 0) (.c (.int .i64 0)) (.t 10), []⟩,
    ⟨some 4, none, .mov (.t 11), []⟩])
  (.seq (.region [⟨some 12, none, .mov (.t 4), []⟩,
    ⟨some 13, none, .mov (.t 0), []⟩,
    ⟨some 14, none, .append 5 1 1 (.t 12) (.t 13), []⟩,
    ⟨some 4, none, .mov (.t 14), []⟩])
  (.seq (.region [⟨some 15, none, .mov (.t 4), []⟩,
    ⟨some 16, none, .mov (.t 3), []⟩,
    ⟨some 17, none, .conv .u8 (.t 16), []⟩,
    ⟨some 18, none, .mov (.t 3), []⟩,
    ⟨some 19, none, .bin .shr (.t 18) (.c (.int .u64 8)), []⟩,
    ⟨some 20, none, .conv .u8 (.t 19), []⟩,
    ⟨some 21, none, .mov (.t 3), []⟩,
    ⟨some 22, none, .bin .shr (.t 21) (.c (.int .u64 16)), []⟩,
    ⟨some 23, none, .conv .u8 (.t 22), []⟩,
    ⟨some 24, none, .mov (.t 3), []⟩,
    ⟨some 25, none, .bin .shr (.t 24) (.c (.int .u64 24)), []⟩,
    ⟨some 26, none, .conv .u8 (.t 25), []⟩,
    ⟨some 27, none, .bslice 5 1 (.int .u8 0) 4 [(0, (.t 17)), (1, (.t 20)), (2, (.t 23)), (3, (.t 26))], []⟩,
    ⟨some 28, none, .append 5 1 1 (.t 15) (.t 27), []⟩,
    ⟨some 2, none, .mov (.t 28), []⟩])
  .ret))))),
  [.tmp 2]⟩
theorem fn106uis : cFn Tryd.prog 106 = some fn106 := by kernel_rfl

/- flume/octet.Text -/
def fn107 : Fn0 := ⟨2, (.seq (.region [⟨some 4, none, .mov (.c .nil), []⟩])
  (.seq (.region [⟨some 5, none, .mov (.t 0), []⟩,
    ⟨some 6, none, .mov (.t 1), []⟩,
    ⟨some 7, none, .len (.t 6), []⟩,
    ⟨some 8, none, .call 100 [(.t 5), (.t 7)], []⟩,
    ⟨some 9, none, .mov (.t 1), []⟩,
    ⟨some 10, none, .append 5 1 1 (.t 8) (.t 9), []⟩,
    ⟨some 4, none, .mov (.t 10), []⟩])
  .ret)),
  [.tmp 4]⟩
theorem fn107uis : cFn Tryd.prog 107 = some fn107 := by kernel_rfl

/- flume/sums.Open -/
def fn108u1 : Cd := (.seq (.region [⟨some 47, none, .mov (.c .nil), []⟩,
    ⟨some 48, none, .mov (.t 0), []⟩,
    ⟨some 49, none, .mov (.t 4), []⟩,
    ⟨some 50, none, .slice 1 (.t 48) none (some (.t 49)) none, []⟩,
    ⟨some 51, none, .append 5 1 1 (.t 47) (.t 50), []⟩,
    ⟨some 2, none, .mov (.t 51), []⟩,
    ⟨some 3, none, .mov (.c (.int .i64 0)), []⟩])
  .ret)
def fn108u2 : Cd := (.seq (.draw (.pre [⟨some 11, none, .mov (.t 0), []⟩,
    ⟨some 12, none, .mov (.t 4), []⟩,
    ⟨some 13, none, .iaddr 1 (.t 11) (.t 12), []⟩,
    ⟨some 14, none, .load false 1 (.t 13), []⟩,
    ⟨some 15, none, .conv .u32 (.t 14), []⟩,
    ⟨some 16, none, .mov (.t 0), []⟩,
    ⟨some 17, none, .mov (.t 4), []⟩,
    ⟨some 18, none, .bin .add (.t 17) (.c (.int .i64 1)), []⟩,
    ⟨some 19, none, .iaddr 1 (.t 16) (.t 18), []⟩,
    ⟨some 20, none, .load false 1 (.t 19), []⟩,
    ⟨some 21, none, .conv .u32 (.t 20), []⟩,
    ⟨some 22, none, .bin .shl (.t 21) (.c (.int .u64 8)), []⟩,
    ⟨some 23, none, .bin .or (.t 15) (.t 22), []⟩,
    ⟨some 24, none, .mov (.t 0), []⟩,
    ⟨some 25, none, .mov (.t 4), []⟩,
    ⟨some 26, none, .bin .add (.t 25) (.c (.int .i64 2)), []⟩,
    ⟨some 27, none, .iaddr 1 (.t 24) (.t 26), []⟩,
    ⟨some 28, none, .load false 1 (.t 27), []⟩,
    ⟨some 29, none, .conv .u32 (.t 28), []⟩,
    ⟨some 30, none, .bin .shl (.t 29) (.c (.int .u64 16)), []⟩,
    ⟨some 31, none, .bin .or (.t 23) (.t 30), []⟩,
    ⟨some 32, none, .mov (.t 0), []⟩,
    ⟨some 33, none, .mov (.t 4), []⟩,
    ⟨some 34, none, .bin .add (.t 33) (.c (.int .i64 3)), []⟩,
    ⟨some 35, none, .iaddr 1 (.t 32) (.t 34), []⟩,
    ⟨some 36, none, .load false 1 (.t 35), []⟩,
    ⟨some 37, none, .conv .u32 (.t 36), []⟩,
    ⟨some 38, none, .bin .shl (.t 37) (.c (.int .u64 24)), []⟩,
    ⟨some 39, none, .bin .or (.t 31) (.t 38), []⟩,
    ⟨some 5, none, .mov (.t 39), []⟩]
  .done))
  (.seq (.seq (.region [⟨some 40, none, .mov (.t 5), []⟩,
    ⟨some 41, none, .mov (.t 0), []⟩,
    ⟨some 42, none, .mov (.t 4), []⟩,
    ⟨some 43, none, .slice 1 (.t 41) none (some (.t 42)) none, []⟩,
    ⟨some 44, none, .bslice 27 1 .nil 1 [(0, (.t 43))], []⟩,
    ⟨some 45, none, .call 121 [(.t 44)], []⟩,
    ⟨some 46, none, .bin .neq (.t 40) (.t 45), []⟩])
  (.cond (.t 46) (.seq (.region [⟨some 2, none, .mov (.c .nil), []⟩,
    ⟨some 3, none, .mov (.c (.int .i64 10)), []⟩])
  .ret)
  .skip))
  fn108u1))
def fn108 : Fn0 := ⟨1, (.seq (.region [⟨some 2, none, .mov (.c .nil), []⟩,
    ⟨some 3, none, .mov (.c (.int .i64 0)), []⟩])
  (.seq (.region [⟨some 6, none, .mov (.t 0), []⟩,
    ⟨some 7, none, .len (.t 6), []⟩,
    ⟨some 8, none, .bin .sub (.t 7) (.c (.int .i64 4)), []⟩,
    ⟨some 4, none, .mov (.t 8), []⟩])
  (.seq (.seq (.region [⟨some 9, none, .mov (.t 4), []⟩,
    ⟨some 10, none, .bin .lss (.t 9) (.c (.int .i64 0)), []⟩])
  (.cond (.t 10) (.seq (.region [⟨some 2, none, .mov (.c .nil), []⟩,
    ⟨some 3, none, .mov (.c (.int .i64 2)), []⟩])
  .ret)
  .skip))
  fn108u2))),
  [.tmp 2, .tmp 3]⟩
theorem fn108uis : cFn Tryd.prog 108 = some fn108 := by kernel_rfl

/- flume/octet.Read -/
def fn109 : Fn0 := ⟨1, (.seq (.region [⟨some 2, none, .mov (.c .nilp), []⟩])
  (.seq (.region [⟨some 3, none, .mov (.c .nil), []⟩,
    ⟨some 4, none, .mov (.t 0), []⟩,
    ⟨some 5, none, .append 5 1 1 (.t 3) (.t 4), []⟩,
    ⟨some 6, none, .build [.nil, (.bool false)] [(0, 1, (.t 5)), (1, 1, (.c (.bool true)))], []⟩,
    ⟨some 7, none, .box 192 2 (.t 6), []⟩,
    ⟨some 2, none, .mov (.t 7), []⟩])
  .ret)),
  [.tmp 2]⟩
theorem fn109uis : cFn Tryd.prog 109 = some fn109 := by kernel_rfl

/- (*flume/octet.Reader).Number -/
def fn110u1 : Cd := (.cond (.t 15) (.seq (.region [⟨some 2, none, .mov (.c (.int .i64 0)), []⟩,
    ⟨some 3, none, .mov (.c (.int .i64 6)), []⟩])
  .ret)
  .skip)
def fn110u2 : Cd := (.seq (.region [⟨some 17, none, .mov (.t 0), []⟩,
    ⟨some 18, none, .nilck (.t 17), []⟩,
    ⟨some 19, none, .faddr (.t 18) 0, []⟩,
    ⟨some 20, none, .load false 1 (.t 19), []⟩,
    ⟨some 21, none, .call 122 [(.t 20)], []⟩,
    ⟨some 16, none, .mov (.t 21), []⟩,
    ⟨some 22, none, .extract (.t 16) 0, []⟩,
    ⟨some 23, none, .extract (.t 16) 1, []⟩,
    ⟨some 24, none, .extract (.t 16) 2, []⟩,
    ⟨some 4, none, .mov (.t 22), []⟩,
    ⟨some 5, none, .mov (.t 23), []⟩,
    ⟨some 6, none, .mov (.t 24), []⟩])
  (.seq (.region [⟨some 25, none, .mov (.t 0), []⟩,
    ⟨some 26, none, .mov (.t 0), []⟩,
    ⟨some 27, none, .nilck (.t 26), []⟩,
    ⟨some 28, none, .faddr (.t 27) 0, []⟩,
    ⟨some 29, none, .load false 1 (.t 28), []⟩,
    ⟨some 30, none, .mov (.t 5), []⟩,
    ⟨some 31, none, .slice 1 (.t 29) (some (.t 30)) none none, []⟩,
    ⟨some 32, none, .nilck (.t 25), []⟩,
    ⟨some 33, none, .faddr (.t 32) 0, []⟩,
    ⟨none, none, .store 1 (.t 33) (.t 31), []⟩])
  (.seq (.region [⟨some 34, none, .mov (.t 4), []⟩,
    ⟨some 35, none, .mov (.t 6), []⟩,
    ⟨some 2, none, .mov (.t 34), []⟩,
    ⟨some 3, none, .mov (.t 35), []⟩])
  .ret)))
def fn110 : Fn0 := ⟨1, (.seq (.region [⟨some 2, none, .mov (.c (.int .i64 0)), []⟩,
    ⟨some 3, none, .mov (.c (.int .i64 0)), []⟩])
  (.seq (.seq (.region [⟨some 7, none, .mov (.t 0), []⟩,
    ⟨some 8, none, .eq false .ptr (.t 7) (.c .nilp), []⟩,
    ⟨some 9, none, .mov (.t 8), []⟩,
    ⟨some 10, (some (9, false)), .mov (.t 0), []⟩,
    ⟨some 11, (some (9, false)), .nilck (.t 10), []⟩,
    ⟨some 12, (some (9, false)), .faddr (.t 11) 1, []⟩,
    ⟨some 13, (some (9, false)), .load false 1 (.t 12), []⟩,
    ⟨some 14, (some (9, false)), .un .not (.t 13), []⟩,
    ⟨some 15, none, .pick (.t 9) (.c (.bool true)) (.t 14), []⟩])
  fn110u1)
  fn110u2)),
  [.tmp 2, .tmp 3]⟩
theorem fn110uis : cFn Tryd.prog 110 = some fn110 := by kernel_rfl

/- (*flume/octet.Reader).Text -/
def fn111u1 : Cd := (.cond (.t 18) (.seq (.region [⟨some 4, none, .mov (.c .nil), []⟩,
    ⟨some 5, none, .mov (.c (.int .i64 6)), []⟩])
  .ret)
  .skip)
def fn111u2 : Cd := (.seq (.region [⟨some 47, none, .mov (.c .nil), []⟩,
    ⟨some 48, none, .mov (.t 0), []⟩,
    ⟨some 49, none, .nilck (.t 48), []⟩,
    ⟨some 50, none, .faddr (.t 49) 0, []⟩,
    ⟨some 51, none, .load false 1 (.t 50), []⟩,
    ⟨some 52, none, .mov (.t 7), []⟩,
    ⟨some 53, none, .mov (.t 7), []⟩,
    ⟨some 54, none, .mov (.t 6), []⟩,
    ⟨some 55, none, .bin .add (.t 53) (.t 54), []⟩,
    ⟨some 56, none, .slice 1 (.t 51) (some (.t 52)) (some (.t 55)) none, []⟩,
    ⟨some 57, none, .append 5 1 1 (.t 47) (.t 56), []⟩,
    ⟨some 9, none, .mov (.t 57), []⟩])
  (.seq (.region [⟨some 58, none, .mov (.t 0), []⟩,
    ⟨some 59, none, .mov (.t 0), []⟩,
    ⟨some 60, none, .nilck (.t 59), []⟩,
    ⟨some 61, none, .faddr (.t 60) 0, []⟩,
    ⟨some 62, none, .load false 1 (.t 61), []⟩,
    ⟨some 63, none, .mov (.t 7), []⟩,
    ⟨some 64, none, .mov (.t 6), []⟩,
    ⟨some 65, none, .bin .add (.t 63) (.t 64), []⟩,
    ⟨some 66, none, .slice 1 (.t 62) (some (.t 65)) none none, []⟩,
    ⟨some 67, none, .nilck (.t 58), []⟩,
    ⟨some 68, none, .faddr (.t 67) 0, []⟩,
    ⟨none, none, .store 1 (.t 68) (.t 66), []⟩])
  (.seq (.region [⟨some 69, none, .mov (.t 9), []⟩,
    ⟨some 4, none, .mov (.t 69), []⟩,
    ⟨some 5, none, .mov (.c (.int .i64 0)), []⟩])
  .ret)))
def fn111u3 : Cd := (.seq (.region [⟨some 20, none, .mov (.t 0), []⟩,
    ⟨some 21, none, .nilck (.t 20), []⟩,
    ⟨some 22, none, .faddr (.t 21) 0, []⟩,
    ⟨some 23, none, .load false 1 (.t 22), []⟩,
    ⟨some 24, none, .call 122 [(.t 23)], []⟩,
    ⟨some 19, none, .mov (.t 24), []⟩,
    ⟨some 25, none, .extract (.t 19) 0, []⟩,
    ⟨some 26, none, .extract (.t 19) 1, []⟩,
    ⟨some 27, none, .extract (.t 19) 2, []⟩,
    ⟨some 6, none, .mov (.t 25), []⟩,
    ⟨some 7, none, .mov (.t 26), []⟩,
    ⟨some 8, none, .mov (.t 27), []⟩])
  (.seq (.block 0 (.seq (.region [⟨some 29, none, .mov (.t 8), []⟩,
    ⟨some 30, none, .bin .neq (.t 29) (.c (.int .i64 0)), []⟩,
    ⟨some 28, none, .mov (.t 30), []⟩])
  (.cond (.t 28) (.seq (.region [⟨some 31, none, .mov (.t 8), []⟩,
    ⟨some 4, none, .mov (.c .nil), []⟩,
    ⟨some 5, none, .mov (.t 31), []⟩])
  .ret)
  (.seq (.region [⟨some 33, none, .mov (.t 6), []⟩,
    ⟨some 34, none, .mov (.t 1), []⟩,
    ⟨some 35, none, .minmax true (.t 34) (.c (.int .i64 0)), []⟩,
    ⟨some 36, none, .bin .gtr (.t 33) (.t 35), []⟩,
    ⟨some 32, none, .mov (.t 36), []⟩])
  (.cond (.t 32) (.seq (.region [⟨some 4, none, .mov (.c .nil), []⟩,
    ⟨some 5, none, .mov (.c (.int .i64 4)), []⟩])
  .ret)
  (.seq (.region [⟨some 38, none, .mov (.t 6), []⟩,
    ⟨some 39, none, .mov (.t 0), []⟩,
    ⟨some 40, none, .nilck (.t 39), []⟩,
    ⟨some 41, none, .faddr (.t 40) 0, []⟩,
    ⟨some 42, none, .load false 1 (.t 41), []⟩,
    ⟨some 43, none, .len (.t 42), []⟩,
    ⟨some 44, none, .mov (.t 7), []⟩,
    ⟨some 45, none, .bin .sub (.t 43) (.t 44), []⟩,
    ⟨some 46, none, .bin .gtr (.t 38) (.t 45), []⟩,
    ⟨some 37, none, .mov (.t 46), []⟩])
  (.cond (.t 37) (.seq (.region [⟨some 4, none, .mov (.c .nil), []⟩,
    ⟨some 5, none, .mov (.c (.int .i64 2)), []⟩])
  .ret)
  .skip)))))))
  fn111u2))
def fn111 : Fn0 := ⟨2, (.seq (.region [⟨some 4, none, .mov (.c .nil), []⟩,
    ⟨some 5, none, .mov (.c (.int .i64 0)), []⟩])
  (.seq (.seq (.region [⟨some 10, none, .mov (.t 0), []⟩,
    ⟨some 11, none, .eq false .ptr (.t 10) (.c .nilp), []⟩,
    ⟨some 12, none, .mov (.t 11), []⟩,
    ⟨some 13, (some (12, false)), .mov (.t 0), []⟩,
    ⟨some 14, (some (12, false)), .nilck (.t 13), []⟩,
    ⟨some 15, (some (12, false)), .faddr (.t 14) 1, []⟩,
    ⟨some 16, (some (12, false)), .load false 1 (.t 15), []⟩,
    ⟨some 17, (some (12, false)), .un .not (.t 16), []⟩,
    ⟨some 18, none, .pick (.t 12) (.c (.bool true)) (.t 17), []⟩])
  fn111u1)
  fn111u3)),
  [.tmp 4, .tmp 5]⟩
theorem fn111uis : cFn Tryd.prog 111 = some fn111 := by kernel_rfl

/- (*flume/octet.Reader).End -/
def fn112u1 : Cd := (.cond (.t 3) (.seq (.region [⟨some 2, none, .mov (.c (.int .i64 6)), []⟩])
  .ret)
  (.seq (.region [⟨some 14, none, .mov (.t 0), []⟩,
    ⟨some 15, none, .nilck (.t 14), []⟩,
    ⟨some 16, none, .faddr (.t 15) 0, []⟩,
    ⟨some 17, none, .load false 1 (.t 16), []⟩,
    ⟨some 18, none, .len (.t 17), []⟩,
    ⟨some 19, none, .bin .gtr (.t 18) (.c (.int .i64 0)), []⟩,
    ⟨some 13, none, .mov (.t 19), []⟩])
  (.cond (.t 13) (.seq (.region [⟨some 2, none, .mov (.c (.int .i64 3)), []⟩])
  .ret)
  .skip)))
def fn112u2 : Cd := (.seq (.region [⟨some 2, none, .mov (.c (.int .i64 0)), []⟩])
  .ret)
def fn112 : Fn0 := ⟨1, (.seq (.region [⟨some 2, none, .mov (.c (.int .i64 0)), []⟩])
  (.seq (.block 0 (.seq (.region [⟨some 4, none, .mov (.t 0), []⟩,
    ⟨some 5, none, .eq false .ptr (.t 4) (.c .nilp), []⟩,
    ⟨some 6, none, .mov (.t 5), []⟩,
    ⟨some 7, (some (6, false)), .mov (.t 0), []⟩,
    ⟨some 8, (some (6, false)), .nilck (.t 7), []⟩,
    ⟨some 9, (some (6, false)), .faddr (.t 8) 1, []⟩,
    ⟨some 10, (some (6, false)), .load false 1 (.t 9), []⟩,
    ⟨some 11, (some (6, false)), .un .not (.t 10), []⟩,
    ⟨some 12, none, .pick (.t 6) (.c (.bool true)) (.t 11), []⟩,
    ⟨some 3, none, .mov (.t 12), []⟩])
  fn112u1))
  fn112u2)),
  [.tmp 2]⟩
theorem fn112uis : cFn Tryd.prog 112 = some fn112 := by kernel_rfl

/- (*flume/tunnel.Tunnel).begin -/
def fn113 : Fn0 := ⟨2, (.seq (.region [⟨some 4, none, .mov (.t 0), []⟩,
    ⟨some 5, none, .mov (.t 1), []⟩,
    ⟨some 6, none, .nilck (.t 4), []⟩,
    ⟨some 7, none, .faddr (.t 6) 8, []⟩,
    ⟨none, none, .store 1 (.t 7) (.t 5), []⟩])
  (.seq (.region [⟨some 8, none, .mov (.t 0), []⟩,
    ⟨some 9, none, .mkmap, []⟩,
    ⟨some 10, none, .build [(.bool false), (.int .i64 0), (.int .i64 0), .nil, .nil, (.int .i64 0), .nilm] [(0, 1, (.c (.bool true))), (6, 1, (.t 9))], []⟩,
    ⟨some 11, none, .nilck (.t 8), []⟩,
    ⟨some 12, none, .faddr (.t 11) 0, []⟩,
    ⟨none, none, .store 7 (.t 12) (.t 10), []⟩])
  (.seq (.region [⟨some 13, none, .mov (.t 0), []⟩,
    ⟨some 14, none, .nilck (.t 13), []⟩,
    ⟨some 15, none, .faddr (.t 14) 9, []⟩,
    ⟨some 16, none, .load false 1 (.t 15), []⟩,
    ⟨some 17, none, .bin .add (.t 16) (.c (.int .i64 1)), []⟩,
    ⟨some 18, none, .nilck (.t 13), []⟩,
    ⟨some 19, none, .faddr (.t 18) 9, []⟩,
    ⟨none, none, .store 1 (.t 19) (.t 17), []⟩])
  (.region [⟨some 20, none, .mov (.t 0), []⟩,
    ⟨some 21, none, .mov (.t 1), []⟩,
    ⟨some 22, none, .build [(.int .i64 0), (.int .i64 0), (.int .i64 0), (.int .i64 0), (.int .i64 0), (.int .i64 0), .nil] [(0, 1, (.c (.int .i64 1))), (2, 1, (.t 21))], []⟩,
    ⟨some 23, none, .call 77 [(.t 20), (.t 22)], []⟩])))),
  []⟩
theorem fn113uis : cFn Tryd.prog 113 = some fn113 := by kernel_rfl

/- slices.DeleteFunc[[]flume/tunnel.sent,flume/tunnel.sent] -/
def fn114u1 : Cd := (.region [⟨some 20, none, .mov (.t 6), []⟩,
    ⟨some 21, none, .bin .add (.t 20) (.c (.int .i64 1)), []⟩,
    ⟨some 6, none, .mov (.t 21), []⟩])
def fn114u2 : Cd := (.seq (.block 1 (.seq (.region [⟨some 22, none, .mov (.t 0), []⟩,
    ⟨some 23, none, .mov (.t 6), []⟩,
    ⟨some 24, none, .iaddr 3 (.t 22) (.t 23), []⟩,
    ⟨some 25, none, .load true 3 (.t 24), []⟩,
    ⟨some 7, none, .box 140 3 (.c (.agg [(.int .i64 0), .nil, (.int .i64 0)])), []⟩,
    ⟨none, none, .store 3 (.t 7) (.t 25), []⟩])
  (.seq (.region [⟨some 26, none, .mov (.t 1), []⟩,
    ⟨some 27, none, .load true 3 (.t 7), []⟩,
    ⟨some 28, none, .callv (.t 26) [(.t 27)], []⟩,
    ⟨some 29, none, .un .not (.t 28), []⟩])
  (.cond (.t 29) (.seq (.region [⟨some 30, none, .mov (.t 0), []⟩,
    ⟨some 31, none, .mov (.t 5), []⟩,
    ⟨some 32, none, .load true 3 (.t 7), []⟩,
    ⟨some 33, none, .iaddr 3 (.t 30) (.t 31), []⟩,
    ⟨none, none, .store 3 (.t 33) (.t 32), []⟩])
  (.region [⟨some 34, none, .mov (.t 5), []⟩,
    ⟨some 35, none, .bin .add (.t 34) (.c (.int .i64 1)), []⟩,
    ⟨some 5, none, .mov (.t 35), []⟩]))
  .skip))))
  fn114u1)
def fn114u3 : Cd := (.seq (.seq (.region [⟨some 16, none, .mov (.t 6), []⟩,
    ⟨some 17, none, .mov (.t 0), []⟩,
    ⟨some 18, none, .len (.t 17), []⟩,
    ⟨some 19, none, .bin .lss (.t 16) (.t 18), []⟩])
  (.cond (.t 19) .skip
  (.exit 0)))
  fn114u2)
def fn114u4 : Cd := (.seq (.region [⟨some 36, none, .mov (.t 0), []⟩,
    ⟨some 37, none, .mov (.t 5), []⟩,
    ⟨some 38, none, .slice 3 (.t 36) (some (.t 37)) none none, []⟩,
    ⟨none, none, .clear (.agg [(.int .i64 0), .nil, (.int .i64 0)]) (.t 38), []⟩])
  (.seq (.region [⟨some 39, none, .mov (.t 0), []⟩,
    ⟨some 40, none, .mov (.t 5), []⟩,
    ⟨some 41, none, .slice 3 (.t 39) none (some (.t 40)) none, []⟩,
    ⟨some 4, none, .mov (.t 41), []⟩])
  .ret))
def fn114u5 : Cd := (.seq (.seq (.region [⟨some 14, none, .mov (.t 5), []⟩,
    ⟨some 15, none, .bin .add (.t 14) (.c (.int .i64 1)), []⟩,
    ⟨some 6, none, .mov (.t 15), []⟩])
  (.block 0 (.loop fn114u3)))
  fn114u4)
def fn114 : Fn0 := ⟨2, (.seq (.region [⟨some 4, none, .mov (.c .nil), []⟩])
  (.seq (.region [⟨some 8, none, .mov (.t 0), []⟩,
    ⟨some 9, none, .mov (.t 1), []⟩,
    ⟨some 10, none, .call 123 [(.t 8), (.t 9)], []⟩,
    ⟨some 5, none, .mov (.t 10), []⟩])
  (.seq (.seq (.region [⟨some 11, none, .mov (.t 5), []⟩,
    ⟨some 12, none, .bin .eql (.t 11) (.c (.int .i64 (-1))), []⟩])
  (.cond (.t 12) (.seq (.region [⟨some 13, none, .mov (.t 0), []⟩,
    ⟨some 4, none, .mov (.t 13), []⟩])
  .ret)
  .skip))
  fn114u5))),
  [.tmp 4]⟩
theorem fn114uis : cFn Tryd.prog 114 = some fn114 := by kernel_rfl

/- (*flume/tunnel.Tunnel).ack$1 -/
def fn115 : Fn0 := ⟨2, (.seq (.region [⟨some 2, none, .box 140 3 (.t 0), []⟩,
    ⟨some 3, none, .mov (.c (.bool false)), []⟩])
  (.seq (.region [⟨some 5, none, .faddr (.t 2) 0, []⟩,
    ⟨some 6, none, .load false 1 (.t 5), []⟩,
    ⟨some 7, none, .faddr (.t 1) 4, []⟩,
    ⟨some 8, none, .load false 1 (.t 7), []⟩,
    ⟨some 9, none, .bin .sub (.t 6) (.t 8), []⟩,
    ⟨some 10, none, .bin .sub (.t 9) (.c (.int .i64 1)), []⟩,
    ⟨some 4, none, .mov (.t 10), []⟩])
  (.seq (.region [⟨some 11, none, .mov (.t 4), []⟩,
    ⟨some 12, none, .bin .lss (.t 11) (.c (.int .i64 0)), []⟩,
    ⟨some 13, none, .mov (.t 12), []⟩,
    ⟨some 14, (some (13, false)), .mov (.t 4), []⟩,
    ⟨some 15, (some (13, false)), .bin .lss (.t 14) (.c (.int .i64 16)), []⟩,
    ⟨some 16, (some (13, false)), .mov (.t 15), []⟩,
    ⟨some 17, (some (16, true)), .faddr (.t 1) 5, []⟩,
    ⟨some 18, (some (16, true)), .load false 1 (.t 17), []⟩,
    ⟨some 19, (some (16, true)), .mov (.t 4), []⟩,
    ⟨some 20, (some (16, true)), .bin .shr (.t 18) (.t 19), []⟩,
    ⟨some 21, (some (16, true)), .bin .and (.t 20) (.c (.int .i64 1)), []⟩,
    ⟨some 22, (some (16, true)), .bin .eql (.t 21) (.c (.int .i64 1)), []⟩,
    ⟨some 23, (some (13, false)), .pick (.t 16) (.t 22) (.c (.bool false)), []⟩,
    ⟨some 24, none, .pick (.t 13) (.c (.bool true)) (.t 23), []⟩,
    ⟨some 3, none, .mov (.t 24), []⟩])
  .ret))),
  [.tmp 3]⟩
theorem fn115uis : cFn Tryd.prog 115 = some fn115 := by kernel_rfl

/- flume/octet.more -/
def fn119u1 : Cd := (.region [⟨some 14, none, .bin .add (.t 4) (.c (.int .i64 1)), []⟩,
    ⟨some 4, none, .mov (.t 14), []⟩])
def fn119u2 : Cd := (.seq (.block 1 (.seq (.region [⟨some 6, none, .mov (.t 4), []⟩,
    ⟨some 3, none, .mov (.t 6), []⟩])
  (.seq (.region [⟨some 7, none, .mov (.t 0), []⟩,
    ⟨some 8, none, .mov (.t 3), []⟩,
    ⟨some 9, none, .bin .add (.t 8) (.c (.int .i64 1)), []⟩,
    ⟨some 10, none, .bin .mul (.c (.int .i64 7)) (.t 9), []⟩,
    ⟨some 11, none, .bin .shl (.c (.int .u64 1)) (.t 10), []⟩,
    ⟨some 12, none, .bin .lss (.t 7) (.t 11), []⟩])
  (.cond (.t 12) (.seq (.region [⟨some 13, none, .mov (.t 3), []⟩,
    ⟨some 2, none, .mov (.t 13), []⟩])
  .ret)
  .skip))))
  fn119u1)
def fn119u3 : Cd := (.seq (.region [⟨some 5, none, .bin .lss (.t 4) (.c (.int .i64 8)), []⟩])
  (.seq (.cond (.t 5) .skip
  (.exit 0))
  fn119u2))
def fn119u4 : Cd := (.seq (.region [⟨some 2, none, .mov (.c (.int .i64 8)), []⟩])
  .ret)
def fn119 : Fn0 := ⟨1, (.seq (.region [⟨some 2, none, .mov (.c (.int .i64 0)), []⟩])
  (.seq (.seq (.region [⟨some 4, none, .mov (.c (.int .i64 0)), []⟩])
  (.block 0 (.loop fn119u3)))
  fn119u4)),
  [.tmp 2]⟩
theorem fn119uis : cFn Tryd.prog 119 = some fn119 := by kernel_rfl

/- flume/sums.Crc -/
def fn121u1 : Cd := (.seq (.block 3 (.seq (.region [⟨some 18, none, .iaddr 1 (.t 14) (.t 16), []⟩,
    ⟨some 19, none, .load false 1 (.t 18), []⟩,
    ⟨some 7, none, .mov (.t 19), []⟩])
  (.seq (.region [⟨some 20, none, .mov (.t 3), []⟩,
    ⟨some 21, none, .mov (.t 7), []⟩,
    ⟨some 22, none, .conv .u32 (.t 21), []⟩,
    ⟨some 23, none, .bin .xor (.t 20) (.t 22), []⟩,
    ⟨some 3, none, .mov (.t 23), []⟩])
  (.seq (.region [⟨some 24, none, .mov (.t 3), []⟩,
    ⟨some 25, none, .bin .shr (.t 24) (.c (.int .u64 4)), []⟩,
    ⟨some 26, none, .mov (.t 3), []⟩,
    ⟨some 27, none, .bin .and (.t 26) (.c (.int .u32 15)), []⟩,
    ⟨some 28, none, .iaddrA 16 1 (.g 2) (.t 27), []⟩,
    ⟨some 29, none, .load false 1 (.t 28), []⟩,
    ⟨some 30, none, .bin .xor (.t 25) (.t 29), []⟩,
    ⟨some 3, none, .mov (.t 30), []⟩])
  (.region [⟨some 31, none, .mov (.t 3), []⟩,
    ⟨some 32, none, .bin .shr (.t 31) (.c (.int .u64 4)), []⟩,
    ⟨some 33, none, .mov (.t 3), []⟩,
    ⟨some 34, none, .bin .and (.t 33) (.c (.int .u32 15)), []⟩,
    ⟨some 35, none, .iaddrA 16 1 (.g 2) (.t 34), []⟩,
    ⟨some 36, none, .load false 1 (.t 35), []⟩,
    ⟨some 37, none, .bin .xor (.t 32) (.t 36), []⟩,
    ⟨some 3, none, .mov (.t 37), []⟩])))))
  (.region [⟨some 38, none, .bin .add (.t 16) (.c (.int .i64 1)), []⟩,
    ⟨some 16, none, .mov (.t 38), []⟩]))
def fn121u2 : Cd := (.seq (.region [⟨some 17, none, .bin .lss (.t 16) (.t 15), []⟩])
  (.seq (.cond (.t 17) .skip
  (.exit 2))
  fn121u1))
def fn121u3 : Cd := (.region [⟨some 39, none, .bin .add (.t 10) (.c (.int .i64 1)), []⟩,
    ⟨some 10, none, .mov (.t 39), []⟩])
def fn121u4 : Cd := (.seq (.block 1 (.seq (.region [⟨some 12, none, .iaddr 1 (.t 8) (.t 10), []⟩,
    ⟨some 13, none, .load false 1 (.t 12), []⟩,
    ⟨some 5, none, .mov (.t 13), []⟩])
  (.seq (.region [⟨some 14, none, .mov (.t 5), []⟩,
    ⟨some 15, none, .len (.t 14), []⟩,
    ⟨some 16, none, .mov (.c (.int .i64 0)), []⟩])
  (.block 2 (.loop fn121u2)))))
  fn121u3)
def fn121u5 : Cd := (.seq (.region [⟨some 11, none, .bin .lss (.t 10) (.t 9), []⟩])
  (.seq (.cond (.t 11) .skip
  (.exit 0))
  fn121u4))
def fn121u6 : Cd := (.seq (.region [⟨some 40, none, .mov (.t 3), []⟩,
    ⟨some 41, none, .un .xor (.t 40), []⟩,
    ⟨some 2, none, .mov (.t 41), []⟩])
  .ret)
def fn121 : Fn0 := ⟨1, (.seq (.region [⟨some 2, none, .mov (.c (.int .u32 0)), []⟩])
  (.seq (.region [⟨some 3, none, .mov (.c (.int .u32 4294967295)), []⟩])
  (.seq (.seq (.region [⟨some 8, none, .mov (.t 0), []⟩,
    ⟨some 9, none, .len (.t 8), []⟩,
    ⟨some 10, none, .mov (.c (.int .i64 0)), []⟩])
  (.block 0 (.loop fn121u5)))
  fn121u6))),
  [.tmp 2]⟩
theorem fn121uis : cFn Tryd.prog 121 = some fn121 := by kernel_rfl

/- flume/octet.look -/
def fn122u1 : Cd := (.seq (.block 1 (.seq (.region [⟨some 38, none, .iaddr 1 (.t 34) (.t 36), []⟩,
    ⟨some 39, none, .load false 1 (.t 38), []⟩,
    ⟨some 8, none, .mov (.t 39), []⟩])
  (.region [⟨some 40, none, .mov (.t 6), []⟩,
    ⟨some 41, none, .bin .shl (.t 40) (.c (.int .u64 8)), []⟩,
    ⟨some 42, none, .mov (.t 8), []⟩,
    ⟨some 43, none, .conv .u64 (.t 42), []⟩,
    ⟨some 44, none, .bin .or (.t 41) (.t 43), []⟩,
    ⟨some 6, none, .mov (.t 44), []⟩])))
  (.region [⟨some 45, none, .bin .add (.t 36) (.c (.int .i64 1)), []⟩,
    ⟨some 36, none, .mov (.t 45), []⟩]))
def fn122u2 : Cd := (.seq (.region [⟨some 37, none, .bin .lss (.t 36) (.t 35), []⟩])
  (.seq (.cond (.t 37) .skip
  (.exit 0))
  fn122u1))
def fn122u3 : Cd := (.seq (.region [⟨some 54, none, .mov (.t 6), []⟩,
    ⟨some 55, none, .conv .i64 (.t 54), []⟩,
    ⟨some 56, none, .mov (.t 5), []⟩,
    ⟨some 57, none, .bin .add (.t 56) (.c (.int .i64 1)), []⟩,
    ⟨some 2, none, .mov (.t 55), []⟩,
    ⟨some 3, none, .mov (.t 57), []⟩,
    ⟨some 4, none, .mov (.c (.int .i64 0)), []⟩])
  .ret)
def fn122u4 : Cd := (.seq (.block 2 (.seq (.region [⟨some 47, none, .mov (.t 6), []⟩,
    ⟨some 48, none, .bin .gtr (.t 47) (.c (.int .u64 9223372036854775807)), []⟩,
    ⟨some 46, none, .mov (.t 48), []⟩])
  (.cond (.t 46) (.seq (.region [⟨some 2, none, .mov (.c (.int .i64 0)), []⟩,
    ⟨some 3, none, .mov (.c (.int .i64 0)), []⟩,
    ⟨some 4, none, .mov (.c (.int .i64 5)), []⟩])
  .ret)
  (.seq (.region [⟨some 50, none, .mov (.t 6), []⟩,
    ⟨some 51, none, .call 119 [(.t 50)], []⟩,
    ⟨some 52, none, .mov (.t 5), []⟩,
    ⟨some 53, none, .bin .neq (.t 51) (.t 52), []⟩,
    ⟨some 49, none, .mov (.t 53), []⟩])
  (.cond (.t 49) (.seq (.region [⟨some 2, none, .mov (.c (.int .i64 0)), []⟩,
    ⟨some 3, none, .mov (.c (.int .i64 0)), []⟩,
    ⟨some 4, none, .mov (.c (.int .i64 20)), []⟩])
  .ret)
  .skip)))))
  fn122u3)
def fn122u5 : Cd := (.seq (.seq (.region [⟨some 31, none, .mov (.t 0), []⟩,
    ⟨some 32, none, .mov (.t 5), []⟩,
    ⟨some 33, none, .bin .add (.t 32) (.c (.int .i64 1)), []⟩,
    ⟨some 34, none, .slice 1 (.t 31) (some (.c (.int .i64 1))) (some (.t 33)) none, []⟩,
    ⟨some 35, none, .len (.t 34), []⟩,
    ⟨some 36, none, .mov (.c (.int .i64 0)), []⟩])
  (.block 0 (.loop fn122u2)))
  fn122u4)
def fn122u6 : Cd := (.seq (.region [⟨some 21, none, .mov (.t 0), []⟩,
    ⟨some 22, none, .iaddr 1 (.t 21) (.c (.int .i64 0)), []⟩,
    ⟨some 23, none, .load false 1 (.t 22), []⟩,
    ⟨some 24, none, .conv .u64 (.t 23), []⟩,
    ⟨some 6, none, .mov (.t 24), []⟩])
  (.seq (.seq (.region [⟨some 25, none, .mov (.t 5), []⟩,
    ⟨some 26, none, .bin .lss (.t 25) (.c (.int .i64 8)), []⟩])
  (.cond (.t 26) (.region [⟨some 27, none, .mov (.t 6), []⟩,
    ⟨some 28, none, .mov (.t 5), []⟩,
    ⟨some 29, none, .bin .shr (.c (.int .u64 127)) (.t 28), []⟩,
    ⟨some 30, none, .bin .and (.t 27) (.t 29), []⟩,
    ⟨some 6, none, .mov (.t 30), []⟩])
  (.region [⟨some 6, none, .mov (.c (.int .u64 0)), []⟩])))
  fn122u5))
def fn122u7 : Cd := (.seq (.region [⟨some 12, none, .mov (.t 0), []⟩,
    ⟨some 13, none, .iaddr 1 (.t 12) (.c (.int .i64 0)), []⟩,
    ⟨some 14, none, .load false 1 (.t 13), []⟩,
    ⟨some 15, none, .un .xor (.t 14), []⟩,
    ⟨some 16, none, .call 127 [(.t 15)], []⟩,
    ⟨some 5, none, .mov (.t 16), []⟩])
  (.seq (.seq (.region [⟨some 17, none, .mov (.t 0), []⟩,
    ⟨some 18, none, .len (.t 17), []⟩,
    ⟨some 19, none, .mov (.t 5), []⟩,
    ⟨some 20, none, .bin .leq (.t 18) (.t 19), []⟩])
  (.cond (.t 20) (.seq (.region [⟨some 2, none, .mov (.c (.int .i64 0)), []⟩,
    ⟨some 3, none, .mov (.c (.int .i64 0)), []⟩,
    ⟨some 4, none, .mov (.c (.int .i64 2)), []⟩])
  .ret)
  .skip))
  fn122u6))
def fn122 : Fn0 := ⟨1, (.seq (.region [⟨some 2, none, .mov (.c (.int .i64 0)), []⟩,
    ⟨some 3, none, .mov (.c (.int .i64 0)), []⟩,
    ⟨some 4, none, .mov (.c (.int .i64 0)), []⟩])
  (.seq (.seq (.region [⟨some 9, none, .mov (.t 0), []⟩,
    ⟨some 10, none, .len (.t 9), []⟩,
    ⟨some 11, none, .bin .eql (.t 10) (.c (.int .i64 0)), []⟩])
  (.cond (.t 11) (.seq (.region [⟨some 2, none, .mov (.c (.int .i64 0)), []⟩,
    ⟨some 3, none, .mov (.c (.int .i64 0)), []⟩,
    ⟨some 4, none, .mov (.c (.int .i64 2)), []⟩])
  .ret)
  .skip))
  fn122u7)),
  [.tmp 2, .tmp 3, .tmp 4]⟩
theorem fn122uis : cFn Tryd.prog 122 = some fn122 := by kernel_rfl

/- slices.IndexFunc[[]flume/tunnel.sent,flume/tunnel.sent] -/
def fn123u1 : Cd := (.region [⟨some 18, none, .bin .add (.t 8) (.c (.int .i64 1)), []⟩,
    ⟨some 8, none, .mov (.t 18), []⟩])
def fn123u2 : Cd := (.seq (.block 1 (.seq (.region [⟨some 10, none, .mov (.t 8), []⟩,
    ⟨some 5, none, .mov (.t 10), []⟩])
  (.seq (.region [⟨some 11, none, .mov (.t 1), []⟩,
    ⟨some 12, none, .mov (.t 0), []⟩,
    ⟨some 13, none, .mov (.t 5), []⟩,
    ⟨some 14, none, .iaddr 3 (.t 12) (.t 13), []⟩,
    ⟨some 15, none, .load true 3 (.t 14), []⟩,
    ⟨some 16, none, .callv (.t 11) [(.t 15)], []⟩])
  (.cond (.t 16) (.seq (.region [⟨some 17, none, .mov (.t 5), []⟩,
    ⟨some 4, none, .mov (.t 17), []⟩])
  .ret)
  .skip))))
  fn123u1)
def fn123u3 : Cd := (.seq (.region [⟨some 9, none, .bin .lss (.t 8) (.t 7), []⟩])
  (.seq (.cond (.t 9) .skip
  (.exit 0))
  fn123u2))
def fn123u4 : Cd := (.seq (.region [⟨some 4, none, .mov (.c (.int .i64 (-1))), []⟩])
  .ret)
def fn123 : Fn0 := ⟨2, (.seq (.region [⟨some 4, none, .mov (.c (.int .i64 0)), []⟩])
  (.seq (.seq (.region [⟨some 6, none, .mov (.t 0), []⟩,
    ⟨some 7, none, .len (.t 6), []⟩,
    ⟨some 8, none, .mov (.c (.int .i64 0)), []⟩])
  (.block 0 (.loop fn123u3)))
  fn123u4)),
  [.tmp 4]⟩
theorem fn123uis : cFn Tryd.prog 123 = some fn123 := by kernel_rfl

/- math/bits.LeadingZeros8 -/
def fn127 : Fn0 := ⟨1, (.seq (.region [⟨some 2, none, .mov (.c (.int .i64 0)), []⟩])
  (.seq (.region [⟨some 3, none, .mov (.t 0), []⟩,
    ⟨some 4, none, .call 128 [(.t 3)], []⟩,
    ⟨some 5, none, .bin .sub (.c (.int .i64 8)) (.t 4), []⟩,
    ⟨some 2, none, .mov (.t 5), []⟩])
  .ret)),
  [.tmp 2]⟩
theorem fn127uis : cFn Tryd.prog 127 = some fn127 := by kernel_rfl

def str2a39ae : ByteArray := ⟨#[0, 1, 2, 2, 3, 3, 3, 3, 4, 4, 4, 4, 4, 4, 4, 4, 5, 5, 5, 5, 5, 5, 5, 5, 5, 5, 5, 5, 5, 5, 5, 5, 6, 6, 6, 6, 6, 6, 6, 6, 6, 6, 6, 6, 6, 6, 6, 6, 6, 6, 6, 6, 6, 6, 6, 6, 6, 6, 6, 6, 6, 6, 6, 6, 7, 7, 7, 7, 7, 7, 7, 7, 7, 7, 7, 7, 7, 7, 7, 7, 7, 7, 7, 7, 7, 7, 7, 7, 7, 7, 7, 7, 7, 7, 7, 7, 7, 7, 7, 7, 7, 7, 7, 7, 7, 7, 7, 7, 7, 7, 7, 7, 7, 7, 7, 7, 7, 7, 7, 7, 7, 7, 7, 7, 7, 7, 7, 7, 8, 8, 8, 8, 8, 8, 8, 8, 8, 8, 8, 8, 8, 8, 8, 8, 8, 8, 8, 8, 8, 8, 8, 8, 8, 8, 8, 8, 8, 8, 8, 8, 8, 8, 8, 8, 8, 8, 8, 8, 8, 8, 8, 8, 8, 8, 8, 8, 8, 8, 8, 8, 8, 8, 8, 8, 8, 8, 8, 8, 8, 8, 8, 8, 8, 8, 8, 8, 8, 8, 8, 8, 8, 8, 8, 8, 8, 8, 8, 8, 8, 8, 8, 8, 8, 8, 8, 8, 8, 8, 8, 8, 8, 8, 8, 8, 8, 8, 8, 8, 8, 8, 8, 8, 8, 8, 8, 8, 8, 8, 8, 8, 8, 8, 8, 8, 8, 8, 8, 8, 8, 8, 8, 8, 8, 8, 8, 8]⟩
/- math/bits.Len8 -/
def fn128 : Fn0 := ⟨1, (.seq (.region [⟨some 2, none, .mov (.c (.int .i64 0)), []⟩])
  (.seq (.region [⟨some 3, none, .mov (.t 0), []⟩,
    ⟨some 4, none, .idxS (.c (.str str2a39ae)) (.t 3), []⟩,
    ⟨some 5, none, .conv .i64 (.t 4), []⟩,
    ⟨some 2, none, .mov (.t 5), []⟩])
  .ret)),
  [.tmp 2]⟩
theorem fn128uis : cFn Tryd.prog 128 = some fn128 := by kernel_rfl

end Go.Am

/- Running compiled code, 1: memory as a tree; one instruction. -/
namespace Go.Am

/-- Things by number, as a tree. -/
inductive Tt (α : Type) where
  | leaf
  | node (l : Tt α) (v : Option α) (r : Tt α)

namespace Tt
variable {α : Type}

/- Both by the recursors themselves: the kernel runs them. -/
noncomputable def get (t : Tt α) : Nat → Option α := @Tt.rec α (fun _ => Nat → Option α) (fun _ => none)
  (fun _ v _ ihl ihr n => @Nat.rec (fun _ => Option α) v (fun n _ => @Bool.rec (fun _ => Option α) (ihr (Nat.div n 2)) (ihl (Nat.div n 2)) (Nat.beq (Nat.mod n 2) 0)) n) t

noncomputable def put (f : Nat) : Tt α → Nat → Option α → Tt α := @Nat.rec (fun _ => Tt α → Nat → Option α → Tt α) (fun t _ _ => t)
  (fun _ ih t n x => @Tt.rec α (fun _ => Tt α)
     (@Nat.rec (fun _ => Tt α) (.node .leaf x .leaf) (fun n _ => @Bool.rec (fun _ => Tt α) (.node .leaf none (ih .leaf (Nat.div n 2) x)) (.node (ih .leaf (Nat.div n 2) x) none .leaf) (Nat.beq (Nat.mod n 2) 0)) n)
     (fun l v r _ _ => @Nat.rec (fun _ => Tt α) (.node l x r) (fun n _ => @Bool.rec (fun _ => Tt α) (.node l v (ih r (Nat.div n 2) x)) (.node (ih l (Nat.div n 2) x) v r) (Nat.beq (Nat.mod n 2) 0)) n) t) f

theorem put_0 (t : Tt α) (n : Nat) (x : Option α) : put 0 t n x = t := rfl
theorem put_l0 (f : Nat) (x : Option α) : put (f + 1) (.leaf : Tt α) 0 x = .node .leaf x .leaf := rfl
theorem put_n0 (f : Nat) (l r : Tt α) (v x : Option α) : put (f + 1) (.node l v r) 0 x = .node l x r := rfl
theorem put_ls (f n : Nat) (x : Option α) : put (f + 1) (.leaf : Tt α) (n + 1) x = bif Nat.beq (n % 2) 0 then .node (put f .leaf (n / 2) x) none .leaf else .node .leaf none (put f .leaf (n / 2) x) := by
  show @Bool.rec (fun _ => Tt α) _ _ (Nat.beq (n % 2) 0) = _
  cases Nat.beq (n % 2) 0 <;> rfl
theorem put_ns (f n : Nat) (l r : Tt α) (v x : Option α) : put (f + 1) (.node l v r) (n + 1) x = bif Nat.beq (n % 2) 0 then .node (put f l (n / 2) x) v r else .node l v (put f r (n / 2) x) := by
  show @Bool.rec (fun _ => Tt α) _ _ (Nat.beq (n % 2) 0) = _
  cases Nat.beq (n % 2) 0 <;> rfl

theorem beq_eq {a b : Nat} : Nat.beq a b = decide (a = b) := by
  cases h : Nat.beq a b with
  | true => simp [Nat.eq_of_beq_eq_true h]
  | false => simp [Nat.ne_of_beq_eq_false h]

theorem get_leaf (n : Nat) : (Tt.leaf : Tt α).get n = none := by cases n <;> rfl
theorem get_zero (l r : Tt α) (v : Option α) : (Tt.node l v r).get 0 = v := rfl
theorem get_succ (l r : Tt α) (v : Option α) (n : Nat) : (Tt.node l v r).get (n + 1) = if n % 2 = 0 then l.get (n / 2) else r.get (n / 2) := by
  show @Bool.rec (fun _ => Option α) (r.get (n / 2)) (l.get (n / 2)) (Nat.beq (n % 2) 0) = _
  rw [beq_eq]
  by_cases h : n % 2 = 0 <;> simp [h]

theorem get_put : ∀ (f : Nat) (t : Tt α) (n : Nat) (x : Option α) (m : Nat), n + 1 < 2 ^ f → (put f t n x).get m = if m = n then x else t.get m
  | 0, t, n, x, m, h => by simp at h
  | f + 1, .leaf, 0, x, m, h => by
    cases m with
    | zero => simp [put_l0, put_n0, get_zero]
    | succ m => simp [put_l0, get_succ, get_leaf]
  | f + 1, .leaf, n + 1, x, m, h => by
    have h' : n / 2 + 1 < 2 ^ f := by rw [Nat.pow_succ] at h; omega
    simp only [put_ls, put_ns, beq_eq]
    cases m with
    | zero =>
      by_cases e : n % 2 = 0 <;> simp [e, get_zero, get_leaf]
    | succ m =>
      by_cases e : n % 2 = 0
      · simp only [e, decide_true, cond_true, get_succ]
        rw [get_put f .leaf (n / 2) x (m / 2) h']
        by_cases em : m % 2 = 0
        · simp only [em, if_true, get_leaf]
          by_cases eq : m = n
          · simp [eq]
          · have : ¬ m / 2 = n / 2 := by omega
            simp [eq, this]
        · have : ¬ m = n := by omega
          simp [em, this, get_leaf]
      · simp only [e, decide_false, cond_false, get_succ]
        rw [get_put f .leaf (n / 2) x (m / 2) h']
        by_cases em : m % 2 = 0
        · have : ¬ m = n := by omega
          simp [em, this, get_leaf]
        · simp only [em, if_false, get_leaf]
          by_cases eq : m = n
          · simp [eq]
          · have : ¬ m / 2 = n / 2 := by omega
            simp [eq, this]
  | f + 1, .node l v r, 0, x, m, h => by
    cases m with
    | zero => simp [put_l0, put_n0, get_zero]
    | succ m => simp [put_n0, get_succ]
  | f + 1, .node l v r, n + 1, x, m, h => by
    have h' : n / 2 + 1 < 2 ^ f := by rw [Nat.pow_succ] at h; omega
    simp only [put_ls, put_ns, beq_eq]
    cases m with
    | zero =>
      by_cases e : n % 2 = 0 <;> simp [e, get_zero]
    | succ m =>
      by_cases e : n % 2 = 0
      · simp only [e, decide_true, cond_true, get_succ]
        rw [get_put f l (n / 2) x (m / 2) h']
        by_cases em : m % 2 = 0
        · simp only [em, if_true]
          by_cases eq : m = n
          · simp [eq]
          · have : ¬ m / 2 = n / 2 := by omega
            simp [eq, this]
        · have : ¬ m = n := by omega
          simp [em, this]
      · simp only [e, decide_false, cond_false, get_succ]
        rw [get_put f r (n / 2) x (m / 2) h']
        by_cases em : m % 2 = 0
        · have : ¬ m = n := by omega
          simp [em, this]
        · simp only [em, if_false]
          by_cases eq : m = n
          · simp [eq]
          · have : ¬ m / 2 = n / 2 := by omega
            simp [eq, this]

end Tt

/-- Temporaries. -/
abbrev TT := Tt V
noncomputable def TT.tm (t : TT) : Tm := fun n => match t.get n with | some v => v | none => .undef

def big : Nat := 1073741824

theorem small_pow {n : Nat} (h : n < big) : n + 1 < 2 ^ 32 := by unfold big at h; omega

theorem TT.tm_put (t : TT) (d : Nat) (v : V) (h : d < big) : TT.tm (Tt.put 32 t d (some v)) = upd t.tm d v := by
  funext n
  simp only [TT.tm, upd, Tt.get_put 32 t d (some v) n (small_pow h)]
  by_cases e : n = d <;> simp [e]

/-- Memory. -/
structure CH where
  next : Nat
  t : Tt Ob

namespace CH
noncomputable def obj (c : CH) (o : Nat) : Option Ob := bif Nat.blt o c.next then c.t.get o else none
theorem obj_eq (c : CH) (o : Nat) : c.obj o = if o < c.next then c.t.get o else none := by
  unfold obj Nat.blt
  by_cases h : o < c.next
  · rw [if_pos h, Nat.ble_eq_true_of_le h]; rfl
  · rw [if_neg h]
    cases e : Nat.ble (o + 1) c.next with
    | true => exact absurd (Nat.le_of_ble_eq_true e) h
    | false => rfl
noncomputable def abs (c : CH) : Heap where
  next := c.next
  obj := c.obj
  wf := fun o ho => by rw [obj_eq, if_neg (by omega)]
noncomputable def alloc (c : CH) (x : Ob) : CH := ⟨c.next + 1, Tt.put 32 c.t c.next (some x)⟩
noncomputable def set (c : CH) (p : Nat) (x : Ob) : CH :=
  match c.obj p with
  | some _ => ⟨c.next, Tt.put 32 c.t p (some x)⟩
  | none => c
noncomputable def kill (c : CH) (p : Nat) : CH :=
  match c.obj p with
  | some _ => ⟨c.next, Tt.put 32 c.t p none⟩
  | none => c

theorem ext {h h' : Heap} (e1 : h.next = h'.next) (e2 : ∀ o, h.obj o = h'.obj o) : h = h' := by
  cases h; cases h'
  simp only at e1 e2
  subst e1
  simp only [Heap.mk.injEq, true_and]
  exact funext e2

theorem lt_of {c : CH} {p : Nat} {x : Ob} (e : c.obj p = some x) : p < c.next := by
  rw [obj_eq] at e
  split at e
  · assumption
  · cases e

theorem abs_alloc {c : CH} (h : c.next < big) (x : Ob) : (c.alloc x).abs = c.abs.alloc x := by
  refine ext rfl fun o => ?_
  show (c.alloc x).obj o = if o = c.next then some x else c.obj o
  rw [obj_eq, obj_eq]
  show (if o < c.next + 1 then (Tt.put 32 c.t c.next (some x)).get o else none) = _
  rw [Tt.get_put 32 _ _ _ _ (small_pow h)]
  by_cases e : o = c.next
  · simp [e]
  · simp only [e, if_false]
    by_cases l : o < c.next
    · rw [if_pos l, if_pos (by omega)]
    · rw [if_neg l, if_neg (by omega)]

theorem abs_set {c : CH} (h : c.next ≤ big) (p : Nat) (x : Ob) : (c.set p x).abs = c.abs.set p x := by
  unfold set
  cases e : c.obj p with
  | none =>
    refine ext rfl fun o => ?_
    show c.obj o = if o = p then (c.obj p).map fun _ => x else c.obj o
    split
    · rename_i eo
      rw [eo, e]
      rfl
    · rfl
  | some y =>
    have hp := lt_of e
    refine ext rfl fun o => ?_
    show (CH.mk c.next (Tt.put 32 c.t p (some x))).obj o = if o = p then (c.obj p).map fun _ => x else c.obj o
    rw [e, obj_eq, obj_eq]
    simp only [Option.map_some]
    rw [Tt.get_put 32 _ _ _ _ (small_pow (by omega))]
    by_cases eo : o = p
    · simp [eo, hp]
    · simp [eo]

theorem abs_kill {c : CH} (h : c.next ≤ big) (p : Nat) : (c.kill p).abs = c.abs.kill p := by
  unfold kill
  cases e : c.obj p with
  | none =>
    refine ext rfl fun o => ?_
    show c.obj o = if o = p then none else c.obj o
    split
    · rename_i eo
      rw [eo, e]
    · rfl
  | some y =>
    have hp := lt_of e
    refine ext rfl fun o => ?_
    show (CH.mk c.next (Tt.put 32 c.t p none)).obj o = if o = p then none else c.obj o
    rw [obj_eq, obj_eq]
    rw [Tt.get_put 32 _ _ _ _ (small_pow (by omega))]
    by_cases eo : o = p
    · simp [eo]
    · simp [eo]

theorem next_set (c : CH) (p : Nat) (x : Ob) : (c.set p x).next = c.next := by unfold set; split <;> rfl
theorem next_kill (c : CH) (p : Nat) : (c.kill p).next = c.next := by unfold kill; split <;> rfl
theorem obj_abs (c : CH) : c.abs.obj = c.obj := rfl
theorem next_abs (c : CH) : c.abs.next = c.next := rfl

/-- What an instruction does to memory. -/
inductive Ef where
  | keep
  | alloc (x : Ob)
  | set (p : Nat) (x : Ob)
  | kill (p : Nat)
  | anew (p : Nat) (x : Ob)

noncomputable def app (c : CH) : Ef → Option CH
  | .keep => some c
  | .alloc x => bif Nat.blt c.next big then some (c.alloc x) else none
  | .set p x => some (c.set p x)
  | .kill p => some (c.kill p)
  | .anew p x => bif Nat.blt c.next big then some ((c.kill p).alloc x) else none

def appH (h : Heap) : Ef → Heap
  | .keep => h
  | .alloc x => h.alloc x
  | .set p x => h.set p x
  | .kill p => h.kill p
  | .anew p x => (h.kill p).alloc x

theorem blt_lt {a b : Nat} (h : Nat.blt a b = true) : a < b := Nat.le_of_ble_eq_true h

theorem app_sound {c c' : CH} (h : c.next ≤ big) {e : Ef} (a : c.app e = some c') : appH c.abs e = c'.abs ∧ c'.next ≤ big := by
  cases e with
  | keep => simp only [app, Option.some.injEq] at a; subst a; exact ⟨rfl, h⟩
  | alloc x =>
    simp only [app] at a
    cases hb : Nat.blt c.next big with
    | false => rw [hb] at a; cases a
    | true =>
      rw [hb] at a
      simp only [cond_true, Option.some.injEq] at a
      subst a
      have hl := blt_lt hb
      exact ⟨(abs_alloc hl x).symm, by show c.next + 1 ≤ big; omega⟩
  | set p x => simp only [app, Option.some.injEq] at a; subst a; exact ⟨(abs_set h p x).symm, by rw [next_set]; exact h⟩
  | kill p => simp only [app, Option.some.injEq] at a; subst a; exact ⟨(abs_kill h p).symm, by rw [next_kill]; exact h⟩
  | anew p x =>
    simp only [app] at a
    cases hb : Nat.blt c.next big with
    | false => rw [hb] at a; cases a
    | true =>
      rw [hb] at a
      simp only [cond_true, Option.some.injEq] at a
      subst a
      have hl := blt_lt hb
      have hk : (c.kill p).next < big := by rw [next_kill]; exact hl
      refine ⟨?_, ?_⟩
      · show (c.abs.kill p).alloc x = _
        rw [abs_alloc hk, abs_kill h]
      · show (c.kill p).next + 1 ≤ big
        omega

end CH
end Go.Am

/- Running compiled code, 2: one instruction. -/
namespace Go.Am
open CH

noncomputable def V.pInt (v : V) : Option (IntKind × Int) := @V.rec (fun _ => Option (IntKind × Int)) (fun _ => PUnit) none (fun _ => none) (fun k n => some (k, n)) (fun _ => none) none (fun _ _ => none) (fun _ _ _ _ => none) (fun _ _ _ => none) (fun _ _ => none) none (fun _ => none) none (fun _ _ _ => none) none (fun _ _ _ => none) none (fun _ _ => none) (fun _ _ => none) PUnit.unit (fun _ _ _ _ => PUnit.unit) v
noncomputable def V.pBool (v : V) : Option (Bool) := @V.rec (fun _ => Option (Bool)) (fun _ => PUnit) none (fun b => some b) (fun _ _ => none) (fun _ => none) none (fun _ _ => none) (fun _ _ _ _ => none) (fun _ _ _ => none) (fun _ _ => none) none (fun _ => none) none (fun _ _ _ => none) none (fun _ _ _ => none) none (fun _ _ => none) (fun _ _ => none) PUnit.unit (fun _ _ _ _ => PUnit.unit) v
noncomputable def V.pPtr (v : V) : Option (Nat × Nat × Nat) := @V.rec (fun _ => Option (Nat × Nat × Nat)) (fun _ => PUnit) none (fun _ => none) (fun _ _ => none) (fun _ => none) none (fun _ _ => none) (fun _ _ _ _ => none) (fun o i s => some (o, i, s)) (fun _ _ => none) none (fun _ => none) none (fun _ _ _ => none) none (fun _ _ _ => none) none (fun _ _ => none) (fun _ _ => none) PUnit.unit (fun _ _ _ _ => PUnit.unit) v
noncomputable def V.pCptr (v : V) : Option (List V) := @V.rec (fun _ => Option (List V)) (fun _ => PUnit) none (fun _ => none) (fun _ _ => none) (fun _ => none) none (fun _ _ => none) (fun _ _ _ _ => none) (fun _ _ _ => none) (fun cs _ => some cs) none (fun _ => none) none (fun _ _ _ => none) none (fun _ _ _ => none) none (fun _ _ => none) (fun _ _ => none) PUnit.unit (fun _ _ _ _ => PUnit.unit) v
noncomputable def V.pLst (v : V) : Option (List V) := @V.rec (fun _ => Option (List V)) (fun _ => PUnit) none (fun _ => none) (fun _ _ => none) (fun _ => none) none (fun xs _ => some xs) (fun _ _ _ _ => none) (fun _ _ _ => none) (fun _ _ => none) none (fun _ => none) none (fun _ _ _ => none) none (fun _ _ _ => none) none (fun _ _ => none) (fun _ _ => none) PUnit.unit (fun _ _ _ _ => PUnit.unit) v
noncomputable def V.pSlc (v : V) : Option (Nat × Nat × Nat) := @V.rec (fun _ => Option (Nat × Nat × Nat)) (fun _ => PUnit) none (fun _ => none) (fun _ _ => none) (fun _ => none) none (fun _ _ => none) (fun o off len _ => some (o, off, len)) (fun _ _ _ => none) (fun _ _ => none) none (fun _ => none) none (fun _ _ _ => none) none (fun _ _ _ => none) none (fun _ _ => none) (fun _ _ => none) PUnit.unit (fun _ _ _ _ => PUnit.unit) v
noncomputable def V.pAgg (v : V) : Option (List V) := @V.rec (fun _ => Option (List V)) (fun _ => PUnit) none (fun _ => none) (fun _ _ => none) (fun _ => none) none (fun _ _ => none) (fun _ _ _ _ => none) (fun _ _ _ => none) (fun _ _ => none) none (fun _ => none) none (fun _ _ _ => none) none (fun _ _ _ => none) none (fun cs _ => some cs) (fun _ _ => none) PUnit.unit (fun _ _ _ _ => PUnit.unit) v
noncomputable def V.pTup (v : V) : Option (List V) := @V.rec (fun _ => Option (List V)) (fun _ => PUnit) none (fun _ => none) (fun _ _ => none) (fun _ => none) none (fun _ _ => none) (fun _ _ _ _ => none) (fun _ _ _ => none) (fun _ _ => none) none (fun _ => none) none (fun _ _ _ => none) none (fun _ _ _ => none) none (fun _ _ => none) (fun cs _ => some cs) PUnit.unit (fun _ _ _ _ => PUnit.unit) v
theorem V.pInt_eq {v : V} {k : IntKind} {n : Int} (e : v.pInt = some (k, n)) : v = .int k n := by
  cases v <;> first | (cases e; done) | (injection e with e; subst e; rfl) | (injection e with e; injection e with e1 e2; subst e1 e2; rfl) | (injection e with e; injection e with e1 e2; injection e2 with e2 e3; subst e1 e2 e3; rfl)
theorem V.pBool_eq {v : V} {b : Bool} (e : v.pBool = some b) : v = .bool b := by
  cases v <;> first | (cases e; done) | (injection e with e; subst e; rfl) | (injection e with e; injection e with e1 e2; subst e1 e2; rfl) | (injection e with e; injection e with e1 e2; injection e2 with e2 e3; subst e1 e2 e3; rfl)
theorem V.pPtr_eq {v : V} {o i s : Nat} (e : v.pPtr = some (o, i, s)) : v = .ptr o i s := by
  cases v <;> first | (cases e; done) | (injection e with e; subst e; rfl) | (injection e with e; injection e with e1 e2; subst e1 e2; rfl) | (injection e with e; injection e with e1 e2; injection e2 with e2 e3; subst e1 e2 e3; rfl)
theorem V.pCptr_eq {v : V} {cs : List V} (e : v.pCptr = some cs) : v = .cptr cs := by
  cases v <;> first | (cases e; done) | (injection e with e; subst e; rfl) | (injection e with e; injection e with e1 e2; subst e1 e2; rfl) | (injection e with e; injection e with e1 e2; injection e2 with e2 e3; subst e1 e2 e3; rfl)
theorem V.pLst_eq {v : V} {cs : List V} (e : v.pLst = some cs) : v = .lst cs := by
  cases v <;> first | (cases e; done) | (injection e with e; subst e; rfl) | (injection e with e; injection e with e1 e2; subst e1 e2; rfl) | (injection e with e; injection e with e1 e2; injection e2 with e2 e3; subst e1 e2 e3; rfl)
theorem V.pAgg_eq {v : V} {cs : List V} (e : v.pAgg = some cs) : v = .agg cs := by
  cases v <;> first | (cases e; done) | (injection e with e; subst e; rfl) | (injection e with e; injection e with e1 e2; subst e1 e2; rfl) | (injection e with e; injection e with e1 e2; injection e2 with e2 e3; subst e1 e2 e3; rfl)
theorem V.pTup_eq {v : V} {cs : List V} (e : v.pTup = some cs) : v = .tup cs := by
  cases v <;> first | (cases e; done) | (injection e with e; subst e; rfl) | (injection e with e; injection e with e1 e2; subst e1 e2; rfl) | (injection e with e; injection e with e1 e2; injection e2 with e2 e3; subst e1 e2 e3; rfl)
theorem V.pSlc_eq {v : V} {o off len : Nat} (e : v.pSlc = some (o, off, len)) : ∃ room, v = .slc o off len room := by
  cases v <;> first | (cases e; done) | (injection e with e; injection e with e1 e2; injection e2 with e2 e3; subst e1 e2 e3; exact ⟨_, rfl⟩)

/-- What an instruction gives, and does to memory. -/
def stepE (G : Nat → V) (a : Tm) (h : Heap) : I → Option (V × Ef)
  | .box ty sz x => if (x.ev G a).cells.length = sz ∧ (x.ev G a).sane = true then some (.ptr h.next 0 0, .alloc (.arr ty sz [x.ev G a])) else none
  | .bslice ty sz z len parts =>
    if z.cells.length = sz ∧ z.sane = true ∧ len * sz ≤ 16777216 then
      (setParts sz (List.replicate len z) (parts.map fun p => (p.1, p.2.ev G a))).map fun xs => (.slc h.next 0 len len, .alloc (.arr ty sz xs))
    else none
  | .store n x v =>
    match x.ev G a with
    | .ptr o i sub =>
      match h.obj o with
      | some (.arr ty sz xs) =>
        match xs[i]? with
        | some y =>
          if (v.ev G a).cells.length = n ∧ sub + n ≤ y.cells.length ∧ (v.ev G a).sane = true then
            match y, v.ev G a with
            | .agg _, _ => some (.undef, .set o (.arr ty sz (xs.set i (setCells y sub (v.ev G a).cells))))
            | _, .agg _ => none
            | _, _ => some (.undef, .set o (.arr ty sz (xs.set i (v.ev G a))))
          else none
        | none => none
      | _ => none
    | _ => none
  | .mkslice ty sz bytes z l c =>
    match natOf (l.ev G a), natOf (c.ev G a) with
    | some n, some m => if n ≤ m ∧ m * bytes ≤ 70368744177664 ∧ z.cells.length = sz ∧ z.sane = true then some (.slc h.next 0 n n, .alloc (.arr ty sz (List.replicate n z))) else none
    | _, _ => none
  | .mkmap => some (.map h.next, .alloc (.map [] 0))
  | .mupd kn x k v =>
    match x.ev G a with
    | .map m =>
      match h.obj m with
      | some (.map es clock) =>
        match findK kn (k.ev G a) es with
        | some (some _) => some (.undef, .set m (.map (putAt kn (k.ev G a) (some (v.ev G a)) es) clock))
        | some none => some (.undef, .set m (.map (es ++ [⟨k.ev G a, v.ev G a, clock⟩]) (clock + 1)))
        | none => none
      | _ => none
    | _ => none
  | .mentry kn z x k =>
    match x.ev G a with
    | .map m =>
      match h.obj m with
      | some (.map es clock) =>
        match findK kn (k.ev G a) es with
        | some (some q) => some (entMap z clock (some q), .set m (.map (putAt kn (k.ev G a) none es) clock))
        | some none => some (entMap z clock none, .set m (.map (es ++ [⟨k.ev G a, z, clock⟩]) (clock + 1)))
        | none => none
      | _ => none
    | _ => none
  | .estore x s v =>
    match x.ev G a, s.ev G a with
    | .map m, .int .i64 n =>
      match h.obj m with
      | some (.map es clock) => if 0 ≤ n then (putBorn n.toNat (v.ev G a) es).map fun es' => (.undef, .set m (.map es' clock)) else none
      | _ => none
    | _, _ => none
  | .append ty sz bytes x y =>
    match readL h (y.ev G a), x.ev G a with
    | some ys, .nil =>
      if ys.length * bytes ≤ 70368744177664 ∧ ys.length ≤ 70368744177664 ∧ szOk sz ys = true then
        (match ys with
         | [] => some (.nil, .keep)
         | _ :: _ => some (.slc h.next 0 ys.length ys.length, .alloc (.arr ty sz ys)))
      else none
    | some ys, .slc o 0 len room =>
      match h.obj o with
      | some (.arr ty' sz' xs) =>
        if ty' = ty ∧ sz' = sz ∧ (len + ys.length) * bytes ≤ 70368744177664 ∧ len + ys.length ≤ 70368744177664 ∧ szOk sz ys = true ∧ len ≤ xs.length then
          if len + ys.length ≤ room ∧ len + ys.length ≤ xs.length then
            some (.slc o 0 (len + ys.length) room, .set o (.arr ty sz (xs.take len ++ ys ++ xs.drop (len + ys.length))))
          else if len = xs.length then
            some (.slc h.next 0 (len + ys.length) (len + ys.length), .anew o (.arr ty sz (xs ++ ys)))
          else none
        else none
      | _ => none
    | _, _ => none
  | .delete kn x k =>
    match x.ev G a with
    | .map m =>
      match h.obj m with
      | some (.map es clock) =>
        match findK kn (k.ev G a) es with
        | some (some _) => some (.tup [], .set m (.map (dropV kn (k.ev G a) es) clock))
        | some none => some (.tup [], .keep)
        | none => none
      | _ => none
    | _ => none
  | .still x =>
    match x.ev G a with
    | .slc o off len _ =>
      match h.obj o with
      | some (.arr _ _ xs) => if off + len ≤ xs.length then some (.lst ((xs.drop off).take len), .kill o) else none
      | _ => none
    | _ => none
  | .clear z x =>
    match x.ev G a with
    | .nil => some (.tup [], .keep)
    | .lst [] => some (.tup [], .keep)
    | .slc _ _ 0 _ => some (.tup [], .keep)
    | .slc o off len _ =>
      match h.obj o with
      | some (.arr ty sz xs) => if 0 < len ∧ off + len ≤ xs.length ∧ z.cells.length = sz then some (.tup [], .set o (.arr ty sz (xs.take off ++ List.replicate len z ++ xs.drop (off + len)))) else none
      | _ => none
    | _ => none
  | .isnil _ _ => none
  | .stop => none
  | .call _ _ => none
  | .callv _ _ => none
  | i => match stepI G a h i with
    | some (v, _) => some (v, .keep)
    | none => none

theorem stepE_sound {G : Nat → V} {a : Tm} {h : Heap} {i : I} {v : V} {e : Ef} (s : stepE G a h i = some (v, e)) : stepI G a h i = some (v, appH h e) := by
  cases i
  case box ty sz x =>
    simp only [stepE] at s
    split at s
    · rename_i hc
      simp only [Option.some.injEq, Prod.mk.injEq] at s
      obtain ⟨rfl, rfl⟩ := s
      simp only [stepI, if_pos hc, appH]
    · cases s
  case bslice ty sz z len parts =>
    simp only [stepE] at s
    split at s
    · rename_i hc
      simp only [Option.map_eq_some_iff, Prod.mk.injEq] at s
      obtain ⟨xs, hx, rfl, rfl⟩ := s
      simp only [stepI, if_pos hc, hx, Option.map_some, appH]
    · cases s
  case store n x v =>
    simp only [stepE] at s
    split at s
    · rename_i o i sub h1
      split at s
      · rename_i ty sz xs h2
        split at s
        · rename_i y h3
          split at s
          · rename_i hc
            simp only [stepI, storeV, h1, h2, h3, if_pos hc]
            generalize v.ev G a = u at s hc ⊢
            split at s
            · simp only [Option.some.injEq, Prod.mk.injEq] at s
              obtain ⟨rfl, rfl⟩ := s
              simp [appH]
            · cases s
            · rename_i q1 q2
              simp only [Option.some.injEq, Prod.mk.injEq] at s
              obtain ⟨rfl, rfl⟩ := s
              simp [appH]
          · cases s
        · cases s
      · cases s
    · cases s
  case mkslice ty sz bytes z l c =>
    simp only [stepE] at s
    split at s
    · rename_i n m h1 h2
      split at s
      · rename_i hc
        simp only [Option.some.injEq, Prod.mk.injEq] at s
        obtain ⟨rfl, rfl⟩ := s
        simp only [stepI, h1, h2, if_pos hc, appH]
      · cases s
    · cases s
  case mkmap =>
    simp only [stepE, Option.some.injEq, Prod.mk.injEq] at s
    obtain ⟨rfl, rfl⟩ := s
    rfl
  case mupd kn x k v =>
    simp only [stepE] at s
    split at s
    · rename_i m h1
      split at s
      · rename_i es clock h2
        split at s
        all_goals first
          | (cases s; done)
          | (rename_i h3
             simp only [Option.some.injEq, Prod.mk.injEq] at s
             obtain ⟨rfl, rfl⟩ := s
             simp only [stepI, h1, h2, h3, appH, updMap])
      · cases s
    · cases s
  case mentry kn z x k =>
    simp only [stepE] at s
    split at s
    · rename_i m h1
      split at s
      · rename_i es clock h2
        split at s
        all_goals first
          | (cases s; done)
          | (rename_i h3
             simp only [Option.some.injEq, Prod.mk.injEq] at s
             obtain ⟨rfl, rfl⟩ := s
             simp only [stepI, h1, h2, h3, appH, touchMap])
      · cases s
    · cases s
  case estore x q v =>
    simp only [stepE] at s
    split at s
    · rename_i m n h1 h2
      split at s
      · rename_i es clock h3
        split at s
        · rename_i hc
          simp only [Option.map_eq_some_iff, Prod.mk.injEq] at s
          obtain ⟨xs, hx, rfl, rfl⟩ := s
          simp only [stepI, h1, h2, h3, if_pos hc, hx, Option.map_some, appH]
        · cases s
      · cases s
    · cases s
  case append ty sz bytes x y =>
    simp only [stepE] at s
    split at s
    · rename_i ys h1 h2
      split at s
      · rename_i hc
        split at s
        · simp only [Option.some.injEq, Prod.mk.injEq] at s
          obtain ⟨rfl, rfl⟩ := s
          simp only [stepI, appendV, h1, h2, if_pos hc, appH]
          rfl
        · simp only [Option.some.injEq, Prod.mk.injEq] at s
          obtain ⟨rfl, rfl⟩ := s
          simp only [stepI, appendV, h1, h2, if_pos hc, appH]
          rw [if_neg (by simp)]
      · cases s
    · rename_i ys o len room h1 h2
      split at s
      · rename_i ty' sz' xs h3
        split at s
        · rename_i hc
          split at s
          · rename_i hc2
            simp only [Option.some.injEq, Prod.mk.injEq] at s
            obtain ⟨rfl, rfl⟩ := s
            simp only [stepI, appendV, h1, h2, h3, if_pos hc, if_pos hc2, appH]
          · rename_i hc2
            split at s
            · rename_i hc3
              simp only [Option.some.injEq, Prod.mk.injEq] at s
              obtain ⟨rfl, rfl⟩ := s
              simp only [stepI, appendV, h1, h2, h3, if_pos hc, if_neg hc2, if_pos hc3, appH]
            · cases s
        · cases s
      · cases s
    · cases s
  case delete kn x k =>
    simp only [stepE] at s
    split at s
    · rename_i m h1
      split at s
      · rename_i es clock h2
        split at s
        all_goals first
          | (cases s; done)
          | (rename_i h3
             simp only [Option.some.injEq, Prod.mk.injEq] at s
             obtain ⟨rfl, rfl⟩ := s
             simp only [stepI, h1, h2, h3, appH, outMap])
      · cases s
    · cases s
  case still x =>
    simp only [stepE] at s
    split at s
    · rename_i o off len room h1
      split at s
      · rename_i ty sz xs h2
        split at s
        · rename_i hc
          simp only [Option.some.injEq, Prod.mk.injEq] at s
          obtain ⟨rfl, rfl⟩ := s
          simp only [stepI, freezeV, h1, h2, if_pos hc, appH]
        · cases s
      · cases s
    · cases s
  case clear z x =>
    simp only [stepE] at s
    split at s
    · rename_i h1
      simp only [Option.some.injEq, Prod.mk.injEq] at s
      obtain ⟨rfl, rfl⟩ := s
      simp only [stepI, h1, appH]
    · rename_i h1
      simp only [Option.some.injEq, Prod.mk.injEq] at s
      obtain ⟨rfl, rfl⟩ := s
      simp only [stepI, h1, appH]
    · rename_i h1
      simp only [Option.some.injEq, Prod.mk.injEq] at s
      obtain ⟨rfl, rfl⟩ := s
      simp only [stepI, h1, appH]
    · rename_i o off len room hne h1
      split at s
      · rename_i ty sz xs h2
        split at s
        · rename_i hc
          simp only [Option.some.injEq, Prod.mk.injEq] at s
          obtain ⟨rfl, rfl⟩ := s
          cases len with
          | zero => omega
          | succ len => simp only [stepI, h1, h2, if_pos hc, appH]
        · cases s
      · cases s
    · cases s
  case isnil => cases s
  case stop => cases s
  case call => cases s
  case callv => cases s
  all_goals
    simp only [stepE] at s
    split at s
    · rename_i u h' hs
      simp only [Option.some.injEq, Prod.mk.injEq] at s
      obtain ⟨rfl, rfl⟩ := s
      have := step_quiet (by simp [kindI]) hs
      subst this
      exact hs
    · cases s

/-! ### faster ways to the same -/

noncomputable def kidx (k : IntKind) : Nat := @IntKind.rec (fun _ => Nat) 0 1 2 3 4 5 6 7 k
theorem kidx_eq {k k' : IntKind} (e : Nat.beq (kidx k) (kidx k') = true) : k = k' := by
  cases k <;> cases k' <;> first | rfl | (exact absurd e (by decide))

noncomputable def W_i64 (n : Int) : Int := @Int.rec (fun _ => Int) (fun m => @Bool.rec (fun _ => Int) (IntKind.i64.wrap (.ofNat m)) (.ofNat m) (Nat.ble m 9223372036854775807)) (fun m => @Bool.rec (fun _ => Int) (IntKind.i64.wrap (.negSucc m)) (.negSucc m) (Nat.ble m 9223372036854775807)) n
noncomputable def W_u32 (n : Int) : Int := @Int.rec (fun _ => Int) (fun m => .ofNat (Nat.mod m 4294967296)) (fun m => IntKind.u32.wrap (.negSucc m)) n
noncomputable def W_u8 (n : Int) : Int := @Int.rec (fun _ => Int) (fun m => .ofNat (Nat.mod m 256)) (fun m => IntKind.u8.wrap (.negSucc m)) n
noncomputable def W_u64 (n : Int) : Int := @Int.rec (fun _ => Int) (fun m => .ofNat (Nat.mod m 18446744073709551616)) (fun m => IntKind.u64.wrap (.negSucc m)) n
noncomputable def wrapF (k : IntKind) : Int → Int := @IntKind.rec (fun _ => Int → Int) (IntKind.wrap .i8) (IntKind.wrap .i16) (IntKind.wrap .i32) W_i64 W_u8 (IntKind.wrap .u16) W_u32 W_u64 k

theorem wrapF_eq (k : IntKind) (n : Int) : wrapF k n = k.wrap n := by
  cases k
  case i64 =>
    cases n with
    | ofNat m =>
      show @Bool.rec (fun _ => Int) (IntKind.i64.wrap (.ofNat m)) (.ofNat m) (Nat.ble m 9223372036854775807) = _
      cases h : Nat.ble m 9223372036854775807 with
      | false => rfl
      | true =>
        have := Nat.le_of_ble_eq_true h
        simp only [IntKind.wrap, IntKind.bits, IntKind.signed, Int.ofNat_eq_natCast]
        simp
        omega
    | negSucc m =>
      show @Bool.rec (fun _ => Int) (IntKind.i64.wrap (.negSucc m)) (.negSucc m) (Nat.ble m 9223372036854775807) = _
      cases h : Nat.ble m 9223372036854775807 with
      | false => rfl
      | true =>
        have := Nat.le_of_ble_eq_true h
        simp only [IntKind.wrap, IntKind.bits, IntKind.signed]
        simp
        omega
  case u32 =>
    cases n with
    | ofNat m => show Int.ofNat (m % 4294967296) = _; simp [IntKind.wrap, IntKind.bits, IntKind.signed]
    | negSucc m => rfl
  case u8 =>
    cases n with
    | ofNat m => show Int.ofNat (m % 256) = _; simp [IntKind.wrap, IntKind.bits, IntKind.signed]
    | negSucc m => rfl
  case u64 =>
    cases n with
    | ofNat m => show Int.ofNat (m % 18446744073709551616) = _; simp [IntKind.wrap, IntKind.bits, IntKind.signed]
    | negSucc m => rfl
  all_goals rfl

/-- Whole numbers that are not below zero, in range. -/
noncomputable def natIn (k : IntKind) (n : Int) : Option Nat := @Int.rec (fun _ => Option Nat) (fun m => @Bool.rec (fun _ => Option Nat) none (some m) (Nat.blt m 9223372036854775808)) (fun _ => none) n
/-- A row's n-th. -/
noncomputable def nth {α : Type} (l : List α) : Nat → Option α := @List.rec α (fun _ => Nat → Option α) (fun _ => none) (fun x _ ih n => @Nat.rec (fun _ => Option α) (some x) (fun n _ => ih n) n) l
theorem nth_eq {α : Type} : ∀ (l : List α) (n : Nat), nth l n = l[n]?
  | [], n => by simp [nth]
  | x :: l, 0 => rfl
  | x :: l, n + 1 => nth_eq l n

noncomputable def intB (f : IntKind → Int → Int → Option V) (d : Option V) (x y : V) : Option V :=
  @Option.rec _ (fun _ => Option V) d (fun p => @Option.rec _ (fun _ => Option V) d (fun q => @Bool.rec (fun _ => Option V) d (f p.1 p.2 q.2) (Nat.beq (kidx p.1) (kidx q.1))) y.pInt) x.pInt

theorem intB_eq {f : IntKind → Int → Int → Option V} {d : Option V} {x y : V} {op : BinOp} (hf : ∀ k m n, x = .int k m → y = .int k n → f k m n = binV op x y) (hd : d = binV op x y) : intB f d x y = binV op x y := by
  unfold intB
  cases e : x.pInt with
  | none => exact hd
  | some p =>
    cases e' : y.pInt with
    | none => exact hd
    | some q =>
      obtain ⟨k, m⟩ := p
      obtain ⟨k', n⟩ := q
      show @Bool.rec (fun _ => Option V) d (f k m n) (Nat.beq (kidx k) (kidx k')) = _
      cases e2 : Nat.beq (kidx k) (kidx k') with
      | false => exact hd
      | true =>
        have := kidx_eq e2
        subst this
        exact hf k m n (V.pInt_eq e) (V.pInt_eq e')

noncomputable def leI (m n : Int) : Bool := @Int.rec (fun _ => Bool) (fun a => @Int.rec (fun _ => Bool) (fun b => Nat.ble a b) (fun _ => false) n) (fun a => @Int.rec (fun _ => Bool) (fun _ => true) (fun b => Nat.ble b a) n) m
noncomputable def eqI (m n : Int) : Bool := @Int.rec (fun _ => Bool) (fun a => @Int.rec (fun _ => Bool) (fun b => Nat.beq a b) (fun _ => false) n) (fun a => @Int.rec (fun _ => Bool) (fun _ => false) (fun b => Nat.beq a b) n) m
noncomputable def notB (b : Bool) : Bool := @Bool.rec (fun _ => Bool) true false b
theorem ble_dec {a b : Nat} : Nat.ble a b = decide (a ≤ b) := by
  cases h : Nat.ble a b with
  | true => simp [Nat.le_of_ble_eq_true h]
  | false =>
    have : ¬ a ≤ b := fun l => by rw [Nat.ble_eq_true_of_le l] at h; cases h
    simp [this]
theorem leI_eq (m n : Int) : leI m n = decide (m ≤ n) := by
  cases m <;> cases n <;> simp only [leI, ble_dec] <;> first | (congr 1; simp; omega) | (simp; omega) | simp
theorem eqI_eq (m n : Int) : eqI m n = decide (m = n) := by
  cases m <;> cases n <;> simp only [eqI, Tt.beq_eq] <;> simp <;> omega
theorem notB_eq (b : Bool) : notB b = !b := by cases b <;> rfl

noncomputable def bitF (nf : Nat → Nat → Nat) (d : Option V) (k : IntKind) (m n : Int) : Option V :=
  @Int.rec (fun _ => Option V) (fun a => @Int.rec (fun _ => Option V) (fun b => @Bool.rec (fun _ => Option V) d (@Bool.rec (fun _ => Option V) d (some (.int k (wrapF k (.ofNat (nf a b))))) (Nat.blt b 4294967296)) (Nat.blt a 4294967296)) (fun _ => d) n) (fun _ => d) m
noncomputable def shrF (d : Option V) (k : IntKind) (m n : Int) : Option V :=
  @Int.rec (fun _ => Option V) (fun a => @Int.rec (fun _ => Option V) (fun b => @Bool.rec (fun _ => Option V) d (some (.int k (.ofNat (Nat.div a (Nat.pow 2 b))))) (Nat.ble b 8)) (fun _ => d) n) (fun _ => d) m

noncomputable def binF (op : BinOp) : V → V → Option V := @BinOp.rec (fun _ => V → V → Option V)
  (fun x y => intB (fun k m n => some (.int k (wrapF k (Int.add m n)))) (binV .add x y) x y)
  (fun x y => intB (fun k m n => some (.int k (wrapF k (Int.sub m n)))) (binV .sub x y) x y)
  (fun x y => intB (fun k m n => some (.int k (wrapF k (Int.mul m n)))) (binV .mul x y) x y)
  (fun x y => binV .quo x y)
  (fun x y => binV .rem x y)
  (fun x y => binV .and x y)
  (fun x y => binV .or x y)
  (fun x y => binV .xor x y)
  (fun x y => binV .shl x y)
  (fun x y => binV .shr x y)
  (fun x y => binV .andNot x y)
  (fun x y => intB (fun _ m n => some (.bool (eqI m n))) (binV .eql x y) x y)
  (fun x y => intB (fun _ m n => some (.bool (notB (eqI m n)))) (binV .neq x y) x y)
  (fun x y => intB (fun _ m n => some (.bool (notB (leI n m)))) (binV .lss x y) x y)
  (fun x y => intB (fun _ m n => some (.bool (leI m n))) (binV .leq x y) x y)
  (fun x y => intB (fun _ m n => some (.bool (notB (leI m n)))) (binV .gtr x y) x y)
  (fun x y => intB (fun _ m n => some (.bool (leI n m))) (binV .geq x y) x y)
  op

theorem binF_eq (op : BinOp) (x y : V) : binF op x y = binV op x y := by
  cases op
  case add => exact intB_eq (x := x) (y := y) (op := .add) (f := fun k m n => some (.int k (wrapF k (Int.add m n)))) (fun k m n hx hy => by subst hx hy; simp only [binV, wrapF_eq, if_true]; rfl) rfl
  case sub => exact intB_eq (x := x) (y := y) (op := .sub) (f := fun k m n => some (.int k (wrapF k (Int.sub m n)))) (fun k m n hx hy => by subst hx hy; simp only [binV, wrapF_eq, if_true]; rfl) rfl
  case mul => exact intB_eq (x := x) (y := y) (op := .mul) (f := fun k m n => some (.int k (wrapF k (Int.mul m n)))) (fun k m n hx hy => by subst hx hy; simp only [binV, wrapF_eq, if_true]; rfl) rfl
  case eql => exact intB_eq (x := x) (y := y) (op := .eql) (f := fun _ m n => some (.bool (eqI m n))) (fun k m n hx hy => by subst hx hy; simp only [binV, eqI_eq, if_true]; rfl) rfl
  case neq => exact intB_eq (x := x) (y := y) (op := .neq) (f := fun _ m n => some (.bool (notB (eqI m n)))) (fun k m n hx hy => by subst hx hy; simp only [binV, eqI_eq, notB_eq, if_true]; rfl) rfl
  case lss => exact intB_eq (x := x) (y := y) (op := .lss) (f := fun _ m n => some (.bool (notB (leI n m)))) (fun k m n hx hy => by subst hx hy; simp only [binV, leI_eq, notB_eq, if_true]; congr 2; by_cases h : n ≤ m <;> simp [h] <;> omega) rfl
  case leq => exact intB_eq (x := x) (y := y) (op := .leq) (f := fun _ m n => some (.bool (leI m n))) (fun k m n hx hy => by subst hx hy; simp only [binV, leI_eq, if_true]) rfl
  case gtr => exact intB_eq (x := x) (y := y) (op := .gtr) (f := fun _ m n => some (.bool (notB (leI m n)))) (fun k m n hx hy => by subst hx hy; simp only [binV, leI_eq, notB_eq, if_true]; congr 2; by_cases h : m ≤ n <;> simp [h] <;> omega) rfl
  case geq => exact intB_eq (x := x) (y := y) (op := .geq) (f := fun _ m n => some (.bool (leI n m))) (fun k m n hx hy => by subst hx hy; simp only [binV, leI_eq, if_true]) rfl
  all_goals rfl

abbrev StepF := (Nat → V) → Tm → Heap → Option (V × Ef)
noncomputable def okVE (v : Option V) : Option (V × Ef) := @Option.rec _ (fun _ => Option (V × Ef)) none (fun v => some (v, .keep)) v
theorem okVE_eq {v : Option V} {u : V} {e : Ef} (h : okVE v = some (u, e)) : v = some u ∧ e = .keep := by
  cases v with
  | none => cases h
  | some v => injection h with h; injection h with h1 h2; subst h1 h2; exact ⟨rfl, rfl⟩

noncomputable def F_mov (x : Opd) : StepF := fun G a _ => some (x.ev G a, .keep)
noncomputable def F_pick (c x y : Opd) : StepF := fun G a h => @Option.rec _ (fun _ => Option (V × Ef)) (stepE G a h (.pick c x y)) (fun b => some (@Bool.rec (fun _ => V) (y.ev G a) (x.ev G a) b, .keep)) (c.ev G a).pBool
noncomputable def cellF (y : V) (sub : Nat) : Option V := @Option.rec _ (fun _ => Option V) (y.cells[sub]?) (fun cs => nth cs sub) y.pAgg
theorem cellF_eq (y : V) (sub : Nat) : cellF y sub = y.cells[sub]? := by
  unfold cellF
  cases e : y.pAgg with
  | none => rfl
  | some cs => rw [V.pAgg_eq e]; exact nth_eq cs sub
noncomputable def loadF (h : Heap) (v : V) : Option V := @Option.rec _ (fun _ => Option V) (@Option.rec _ (fun _ => Option V) none (fun cs => nth cs 0) v.pCptr) (fun p => @Option.rec _ (fun _ => Option V) none
    (fun ob => @Ob.rec (fun _ => Option V) (fun _ _ xs => @Option.rec _ (fun _ => Option V) none (fun y => cellF y p.2.2) (nth xs p.2.1)) (fun _ _ => none) ob) (h.obj p.1)) v.pPtr
theorem loadF_eq (h : Heap) (v : V) : loadF h v = loadV h false 1 v := by
  unfold loadF
  cases e : v.pPtr with
  | none =>
    cases e' : v.pCptr with
    | none => cases v <;> first | rfl | (cases e; done) | (cases e'; done)
    | some cs => rw [V.pCptr_eq e']; exact nth_eq cs 0
  | some p =>
    obtain ⟨o, i, s⟩ := p
    rw [V.pPtr_eq e]
    simp only [loadV]
    cases h.obj o with
    | none => rfl
    | some ob =>
      cases ob with
      | map es cl => rfl
      | arr ty sz xs =>
        simp only [nth_eq]
        cases xs[i]? with
        | none => rfl
        | some y => simp only [cellF_eq]; rfl
theorem loadV_false (h : Heap) (n m : Nat) (v : V) : loadV h false n v = loadV h false m v := by cases v <;> rfl
noncomputable def F_load (agg : Bool) (n : Nat) (x : Opd) : StepF := fun G a h => @Bool.rec (fun _ => Option (V × Ef)) (okVE (loadF h (x.ev G a))) (stepE G a h (.load true n x)) agg
noncomputable def F_store (n : Nat) (x v : Opd) : StepF := fun G a h => stepE G a h (.store n x v)
noncomputable def F_nilck (x : Opd) : StepF := fun G a h => @Option.rec _ (fun _ => Option (V × Ef)) (stepE G a h (.nilck x)) (fun _ => some (x.ev G a, .keep)) (x.ev G a).pPtr
noncomputable def F_bin (op : BinOp) (x y : Opd) : StepF := fun G a _ => okVE (binF op (x.ev G a) (y.ev G a))
noncomputable def F_conv (k : IntKind) (x : Opd) : StepF := fun G a _ => @Option.rec _ (fun _ => Option (V × Ef)) none (fun p => some (.int k (wrapF k p.2), .keep)) (x.ev G a).pInt
noncomputable def F_faddr (x : Opd) (off : Nat) : StepF := fun G a h => @Option.rec _ (fun _ => Option (V × Ef)) (@Option.rec _ (fun _ => Option (V × Ef)) none (fun cs => some (.cptr (cs.drop off), .keep)) (x.ev G a).pCptr) (fun p => some (.ptr p.1 p.2.1 (Nat.add p.2.2 off), .keep)) (x.ev G a).pPtr
noncomputable def idxF (v : V) : Option Nat := @Option.rec _ (fun _ => Option Nat) none (fun p => @Int.rec (fun _ => Option Nat) (fun n => some n) (fun _ => none) p.2) v.pInt
theorem idxF_eq (v : V) : idxF v = idx v := by
  cases v
  case int k n => cases n with
    | ofNat n => show some n = _; simp [idx]
    | negSucc n => show none = _; simp [idx]
  all_goals rfl
noncomputable def F_iaddr (sz : Nat) (x i : Opd) : StepF := fun G a h => @Option.rec _ (fun _ => Option (V × Ef)) none
  (fun n => @Option.rec _ (fun _ => Option (V × Ef))
    (@Option.rec _ (fun _ => Option (V × Ef)) (stepE G a h (.iaddr sz x i)) (fun xs => @Option.rec _ (fun _ => Option (V × Ef)) none (fun y => @Bool.rec (fun _ => Option (V × Ef)) none (some (.cptr y.cells, .keep)) (Nat.beq y.cells.length sz)) (nth xs n)) (x.ev G a).pLst)
    (fun p => @Option.rec _ (fun _ => Option (V × Ef)) none
      (fun ob => @Ob.rec (fun _ => Option (V × Ef)) (fun _ sz' xs => @Bool.rec (fun _ => Option (V × Ef)) none (@Bool.rec (fun _ => Option (V × Ef)) none (@Option.rec _ (fun _ => Option (V × Ef)) none (fun _ => some (.ptr p.1 (Nat.add p.2.1 n) 0, .keep)) (nth xs (Nat.add p.2.1 n))) (Nat.blt n p.2.2)) (Nat.beq sz' sz)) (fun _ _ => none) ob) (h.obj p.1)) (x.ev G a).pSlc) (idxF (i.ev G a))
noncomputable def F_extract (x : Opd) (i : Nat) : StepF := fun G a _ => @Option.rec _ (fun _ => Option (V × Ef)) none (fun vs => okVE (nth vs i)) (x.ev G a).pTup
noncomputable def F_len (x : Opd) : StepF := fun G a h => @Option.rec _ (fun _ => Option (V × Ef)) (@Option.rec _ (fun _ => Option (V × Ef)) (stepE G a h (.len x)) (fun xs => some (.int .i64 (.ofNat xs.length), .keep)) (x.ev G a).pLst) (fun p => some (.int .i64 (.ofNat p.2.2), .keep)) (x.ev G a).pSlc

noncomputable def stepF (i : I) : StepF := @I.rec (fun _ => StepF)
  F_mov
  F_pick
  (fun q0 q1 q2 G a h => stepE G a h (.box q0 q1 q2))
  (fun q0 q1 G a h => stepE G a h (.build q0 q1))
  (fun q0 q1 q2 q3 q4 G a h => stepE G a h (.bslice q0 q1 q2 q3 q4))
  F_load
  F_store
  F_nilck
  F_bin
  (fun q0 q1 q2 q3 G a h => stepE G a h (.eq q0 q1 q2 q3))
  (fun q0 q1 G a h => stepE G a h (.un q0 q1))
  F_conv
  (fun q0 G a h => stepE G a h (.b2s q0))
  F_faddr
  (fun q0 q1 q2 q3 G a h => stepE G a h (.fld q0 q1 q2 q3))
  F_iaddr
  (fun q0 q1 q2 q3 G a h => stepE G a h (.iaddrA q0 q1 q2 q3))
  (fun q0 q1 q2 q3 q4 G a h => stepE G a h (.idxA q0 q1 q2 q3 q4))
  (fun q0 q1 q2 q3 q4 G a h => stepE G a h (.slice q0 q1 q2 q3 q4))
  (fun q0 q1 q2 q3 q4 q5 G a h => stepE G a h (.mkslice q0 q1 q2 q3 q4 q5))
  (fun G a h => stepE G a h .mkmap)
  (fun q0 q1 q2 q3 q4 G a h => stepE G a h (.lookup q0 q1 q2 q3 q4))
  (fun q0 q1 q2 q3 G a h => stepE G a h (.mupd q0 q1 q2 q3))
  (fun q0 q1 q2 q3 G a h => stepE G a h (.mentry q0 q1 q2 q3))
  (fun q0 q1 q2 G a h => stepE G a h (.estore q0 q1 q2))
  F_extract
  F_len
  (fun q0 G a h => stepE G a h (.lenS q0))
  (fun q0 G a h => stepE G a h (.lenM q0))
  (fun q0 G a h => stepE G a h (.lenN q0))
  (fun q0 q1 q2 q3 q4 G a h => stepE G a h (.append q0 q1 q2 q3 q4))
  (fun q0 q1 q2 G a h => stepE G a h (.delete q0 q1 q2))
  (fun q0 q1 q2 G a h => stepE G a h (.minmax q0 q1 q2))
  (fun q0 q1 G a h => stepE G a h (.mkfn q0 q1))
  (fun q0 q1 G a h => stepE G a h (.mkiface q0 q1))
  (fun q0 q1 G a h => stepE G a h (.isnil q0 q1))
  (fun q0 G a h => stepE G a h (.still q0))
  (fun q0 q1 G a h => stepE G a h (.clear q0 q1))
  (fun q0 q1 G a h => stepE G a h (.s2ap q0 q1))
  (fun q0 q1 G a h => stepE G a h (.idxS q0 q1))
  (fun G a h => stepE G a h .stop)
  (fun q0 q1 G a h => stepE G a h (.call q0 q1))
  (fun q0 q1 G a h => stepE G a h (.callv q0 q1))
  i

theorem stepF_sound {G : Nat → V} {a : Tm} {h : Heap} {i : I} {v : V} {e : Ef} (s : stepF i G a h = some (v, e)) : stepI G a h i = some (v, appH h e) := by
  cases i
  case mov x =>
    replace s : F_mov x G a h = _ := s
    injection s with s
    injection s with s1 s2
    subst s1 s2
    rfl
  case pick c x y =>
    replace s : F_pick c x y G a h = _ := s
    unfold F_pick at s
    cases q : (c.ev G a).pBool with
    | none => rw [q] at s; exact stepE_sound s
    | some b =>
      rw [q] at s
      injection s with s
      injection s with s1 s2
      subst s1 s2
      simp only [stepI, V.pBool_eq q]
      cases b <;> rfl
  case load agg n x =>
    replace s : F_load agg n x G a h = _ := s
    cases agg with
    | true => exact stepE_sound s
    | false =>
      obtain ⟨q1, rfl⟩ := okVE_eq s
      rw [loadF_eq] at q1
      simp only [stepI, loadV_false h n 1, q1]
      rfl
  case nilck x =>
    replace s : F_nilck x G a h = _ := s
    unfold F_nilck at s
    cases q : (x.ev G a).pPtr with
    | none => rw [q] at s; exact stepE_sound s
    | some b =>
      rw [q] at s
      injection s with s
      injection s with s1 s2
      subst s1 s2
      obtain ⟨o, i, s⟩ := b
      simp only [stepI, V.pPtr_eq q]
      rfl
  case bin op x y =>
    replace s : F_bin op x y G a h = _ := s
    obtain ⟨q1, rfl⟩ := okVE_eq s
    rw [binF_eq] at q1
    simp only [stepI, q1]
    rfl
  case conv k x =>
    replace s : F_conv k x G a h = _ := s
    unfold F_conv at s
    cases q : (x.ev G a).pInt with
    | none => rw [q] at s; cases s
    | some b =>
      rw [q] at s
      injection s with s
      injection s with s1 s2
      subst s1 s2
      obtain ⟨k', n⟩ := b
      simp only [stepI, V.pInt_eq q, wrapF_eq]
      rfl
  case faddr x off =>
    replace s : F_faddr x off G a h = _ := s
    unfold F_faddr at s
    cases q : (x.ev G a).pPtr with
    | none =>
      rw [q] at s
      cases q2 : (x.ev G a).pCptr with
      | none => rw [q2] at s; cases s
      | some cs =>
        rw [q2] at s
        injection s with s
        injection s with s1 s2
        subst s1 s2
        simp only [stepI, V.pCptr_eq q2]
        rfl
    | some b =>
      rw [q] at s
      injection s with s
      injection s with s1 s2
      subst s1 s2
      obtain ⟨o, i, s⟩ := b
      simp only [stepI, V.pPtr_eq q]
      rfl
  case iaddr sz x i =>
    replace s : F_iaddr sz x i G a h = _ := s
    unfold F_iaddr at s
    rw [idxF_eq] at s
    cases q : idx (i.ev G a) with
    | none => rw [q] at s; cases s
    | some n =>
      rw [q] at s
      simp only at s
      cases q2 : (x.ev G a).pSlc with
      | none =>
        rw [q2] at s
        simp only at s
        cases q3 : (x.ev G a).pLst with
        | none => rw [q3] at s; exact stepE_sound s
        | some xs =>
          rw [q3] at s
          simp only [nth_eq] at s
          cases q4 : xs[n]? with
          | none => rw [q4] at s; cases s
          | some y =>
            rw [q4] at s
            simp only at s
            cases q5 : Nat.beq y.cells.length sz with
            | false => rw [q5] at s; cases s
            | true =>
              rw [q5] at s
              injection s with s
              injection s with s1 s2
              subst s1 s2
              simp only [stepI, q, V.pLst_eq q3, q4]
              rw [if_pos (Nat.eq_of_beq_eq_true q5)]
              rfl
      | some p =>
        rw [q2] at s
        obtain ⟨o, off, len⟩ := p
        obtain ⟨room, hx⟩ := V.pSlc_eq q2
        simp only at s
        cases q3 : h.obj o with
        | none => rw [q3] at s; cases s
        | some ob =>
          rw [q3] at s
          cases ob with
          | map es cl => cases s
          | arr ty sz' xs =>
            simp only at s
            cases q4 : Nat.beq sz' sz with
            | false => rw [q4] at s; cases s
            | true =>
              rw [q4] at s
              simp only at s
              cases q5 : Nat.blt n len with
              | false => rw [q5] at s; cases s
              | true =>
                rw [q5] at s
                simp only [nth_eq] at s
                cases q6 : xs[Nat.add off n]? with
                | none => rw [q6] at s; cases s
                | some y =>
                  rw [q6] at s
                  injection s with s
                  injection s with s1 s2
                  subst s1 s2
                  have h1 := Nat.eq_of_beq_eq_true q4
                  have h2 := blt_lt q5
                  have h3 := (List.getElem?_eq_some_iff.1 q6).1
                  simp only [stepI, q, hx, q3]
                  rw [if_pos ⟨h1, h2, h3⟩]
                  rfl
  case extract x i =>
    replace s : F_extract x i G a h = _ := s
    unfold F_extract at s
    cases q : (x.ev G a).pTup with
    | none => rw [q] at s; cases s
    | some vs =>
      rw [q] at s
      obtain ⟨q1, rfl⟩ := okVE_eq s
      rw [nth_eq] at q1
      simp only [stepI, V.pTup_eq q, q1]
      rfl
  case len x =>
    replace s : F_len x G a h = _ := s
    unfold F_len at s
    cases q : (x.ev G a).pSlc with
    | none =>
      rw [q] at s
      simp only at s
      cases q2 : (x.ev G a).pLst with
      | none => rw [q2] at s; exact stepE_sound s
      | some xs =>
        rw [q2] at s
        injection s with s
        injection s with s1 s2
        subst s1 s2
        simp only [stepI, V.pLst_eq q2, lenV]
        rfl
    | some b =>
      rw [q] at s
      injection s with s
      injection s with s1 s2
      subst s1 s2
      obtain ⟨o, off, len⟩ := b
      obtain ⟨room, hx⟩ := V.pSlc_eq q
      simp only [stepI, hx, lenV]
      rfl
  all_goals exact stepE_sound s

noncomputable def stepC (G : Nat → V) (a : Tm) (c : CH) (i : I) : Option (V × CH) :=
  match stepF i G a c.abs with
  | some (v, e) =>
    match c.app e with
    | some c' => some (v, c')
    | none => none
  | none => none

theorem stepC_sound {G : Nat → V} {a : Tm} {c c' : CH} {i : I} {v : V} (h : c.next ≤ big) (s : stepC G a c i = some (v, c')) : stepI G a c.abs i = some (v, c'.abs) ∧ c'.next ≤ big := by
  unfold stepC at s
  split at s
  · rename_i u e h1
    split at s
    · rename_i c1 h2
      simp only [Option.some.injEq, Prod.mk.injEq] at s
      obtain ⟨rfl, rfl⟩ := s
      obtain ⟨q1, q2⟩ := app_sound h h2
      rw [stepF_sound h1, q1]
      exact ⟨rfl, q2⟩
    · cases s
  · cases s

end Go.Am
