/- The data-level reading of the functions. -/
import Derived.Test.YtplbaapaboonmaaNkZ
set_option linter.all false
namespace Go.Proofs.Ytplbaapaboonmaa
open Go.Nk

/- noria/norialaw30.VmRuns -/
def d_norialaw30_VmRuns : DFun := ⟨
  .seq (.ops false [⟨some 6, .mv (.c (.bool false)), none⟩])
  (.seq (.seq (.ops false [⟨some 14, .mv (.t 0), none⟩, ⟨some 15, .len (.t 14), none⟩, ⟨some 16, .bin .gtr (.t 15) (.c (.int .i64 400)), none⟩, ⟨some 17, .mv (.t 16), none⟩, ⟨some 18, .mv (.t 1), some (17, false)⟩, ⟨some 19, .len (.t 18), some (17, false)⟩, ⟨some 20, .bin .gtr (.t 19) (.c (.int .i64 1100)), some (17, false)⟩, ⟨some 21, .pick (.t 17) (.c (.bool true)) (.t 20), none⟩, ⟨some 22, .mv (.t 21), none⟩, ⟨some 23, .mv (.t 2), some (22, false)⟩, ⟨some 24, .bin .gtr (.t 23) (.c (.int .i64 3000)), some (22, false)⟩, ⟨some 25, .pick (.t 22) (.c (.bool true)) (.t 24), none⟩])
  (.cond (.t 25) (.seq (.ops false [⟨some 26, .callP 7 [], none⟩, ⟨some 6, .mv (.t 26), none⟩])
   (.ret))
   (.skip)))
  (.seq (.ops false [⟨some 27, .bslice false [.int .i64 0] [], none⟩, ⟨some 28, .mv (.t 1), none⟩, ⟨some 29, .append 1 (.t 27) (.t 28), none⟩, ⟨some 7, .mv (.t 29), none⟩])
  (.seq (.ops false [⟨some 31, .mv (.t 0), none⟩, ⟨some 32, .mv (.t 7), none⟩, ⟨some 33, .mv (.t 2), none⟩, ⟨some 34, .callP 8 [(.t 31), (.t 32), (.t 33)], none⟩, ⟨some 30, .mv (.t 34), none⟩, ⟨some 35, .extract 0 (.t 30), none⟩, ⟨some 36, .extract 1 (.t 30), none⟩, ⟨some 37, .extract 2 (.t 30), none⟩, ⟨some 8, .mv (.t 35), none⟩, ⟨some 9, .mv (.t 36), none⟩, ⟨some 10, .mv (.t 37), none⟩])
  (.seq (.ops false [⟨some 39, .mv (.t 0), none⟩, ⟨some 40, .mv (.t 1), none⟩, ⟨some 41, .mv (.t 2), none⟩, ⟨some 42, .callP 9 [(.t 39), (.t 40), (.t 41)], none⟩, ⟨some 38, .mv (.t 42), none⟩, ⟨some 43, .extract 0 (.t 38), none⟩, ⟨some 44, .extract 1 (.t 38), none⟩, ⟨some 45, .extract 2 (.t 38), none⟩, ⟨some 11, .mv (.t 43), none⟩, ⟨some 12, .mv (.t 44), none⟩, ⟨some 13, .mv (.t 45), none⟩])
  (.seq (.ops false [⟨some 46, .mv (.t 8), none⟩, ⟨some 47, .mv (.t 11), none⟩, ⟨some 48, .callP 10 [(.t 46), (.t 47)], none⟩, ⟨some 49, .mv (.t 48), none⟩, ⟨some 50, .mv (.t 9), some (49, true)⟩, ⟨some 51, .mv (.t 12), some (49, true)⟩, ⟨some 52, .bin .eql (.t 50) (.t 51), some (49, true)⟩, ⟨some 53, .pick (.t 49) (.t 52) (.c (.bool false)), none⟩, ⟨some 54, .mv (.t 53), none⟩, ⟨some 55, .mv (.t 10), some (54, true)⟩, ⟨some 56, .callP 11 [(.t 55)], some (54, true)⟩, ⟨some 57, .mv (.t 13), some (54, true)⟩, ⟨some 58, .bin .eql (.t 56) (.t 57), some (54, true)⟩, ⟨some 59, .pick (.t 54) (.t 58) (.c (.bool false)), none⟩, ⟨some 60, .mv (.t 59), none⟩, ⟨some 61, .mv (.t 7), some (60, true)⟩, ⟨some 62, .mv (.t 1), some (60, true)⟩, ⟨some 63, .callP 10 [(.t 61), (.t 62)], some (60, true)⟩, ⟨some 64, .pick (.t 60) (.t 63) (.c (.bool false)), none⟩, ⟨some 65, .mv (.t 64), none⟩, ⟨some 66, .callP 7 [], some (65, true)⟩, ⟨some 67, .pick (.t 65) (.t 66) (.c (.bool false)), none⟩, ⟨some 6, .mv (.t 67), none⟩])
  (.ret)))))),
  [.t 6]⟩

/- noria/norialaw30.VmFuel -/
def d_norialaw30_VmFuel : DFun := ⟨
  .seq (.ops false [⟨some 5, .box (.t 2), none⟩, ⟨some 6, .mv (.c (.bool false)), none⟩])
  (.seq (.seq (.ops false [⟨some 16, .mv (.t 0), none⟩, ⟨some 17, .len (.t 16), none⟩, ⟨some 18, .bin .gtr (.t 17) (.c (.int .i64 400)), none⟩, ⟨some 19, .mv (.t 18), none⟩, ⟨some 20, .mv (.t 1), some (19, false)⟩, ⟨some 21, .len (.t 20), some (19, false)⟩, ⟨some 22, .bin .gtr (.t 21) (.c (.int .i64 1100)), some (19, false)⟩, ⟨some 23, .pick (.t 19) (.c (.bool true)) (.t 22), none⟩, ⟨some 24, .mv (.t 23), none⟩, ⟨some 25, .iaddrA 2 1 (.t 5) (.c (.int .i64 0)), some (24, false)⟩, ⟨some 26, .load none (.t 25), some (24, false)⟩, ⟨some 27, .bin .lss (.t 26) (.c (.int .i64 0)), some (24, false)⟩, ⟨some 28, .pick (.t 24) (.c (.bool true)) (.t 27), none⟩, ⟨some 29, .mv (.t 28), none⟩, ⟨some 30, .iaddrA 2 1 (.t 5) (.c (.int .i64 0)), some (29, false)⟩, ⟨some 31, .load none (.t 30), some (29, false)⟩, ⟨some 32, .bin .gtr (.t 31) (.c (.int .i64 1000)), some (29, false)⟩, ⟨some 33, .pick (.t 29) (.c (.bool true)) (.t 32), none⟩, ⟨some 34, .mv (.t 33), none⟩, ⟨some 35, .iaddrA 2 1 (.t 5) (.c (.int .i64 1)), some (34, false)⟩, ⟨some 36, .load none (.t 35), some (34, false)⟩, ⟨some 37, .bin .lss (.t 36) (.c (.int .i64 0)), some (34, false)⟩, ⟨some 38, .pick (.t 34) (.c (.bool true)) (.t 37), none⟩, ⟨some 39, .mv (.t 38), none⟩, ⟨some 40, .iaddrA 2 1 (.t 5) (.c (.int .i64 1)), some (39, false)⟩, ⟨some 41, .load none (.t 40), some (39, false)⟩, ⟨some 42, .bin .gtr (.t 41) (.c (.int .i64 1000)), some (39, false)⟩, ⟨some 43, .pick (.t 39) (.c (.bool true)) (.t 42), none⟩])
  (.cond (.t 43) (.seq (.ops false [⟨some 44, .callP 7 [], none⟩, ⟨some 6, .mv (.t 44), none⟩])
   (.ret))
   (.skip)))
  (.seq (.ops false [⟨some 46, .mv (.t 0), none⟩, ⟨some 47, .mv (.t 1), none⟩, ⟨some 48, .iaddrA 2 1 (.t 5) (.c (.int .i64 0)), none⟩, ⟨some 49, .load none (.t 48), none⟩, ⟨some 50, .callP 8 [(.t 46), (.t 47), (.t 49)], none⟩, ⟨some 45, .mv (.t 50), none⟩, ⟨some 51, .extract 0 (.t 45), none⟩, ⟨some 52, .extract 1 (.t 45), none⟩, ⟨some 53, .extract 2 (.t 45), none⟩, ⟨some 7, .mv (.t 51), none⟩, ⟨some 8, .mv (.t 52), none⟩, ⟨some 9, .mv (.t 53), none⟩])
  (.seq (.ops false [⟨some 55, .mv (.t 0), none⟩, ⟨some 56, .mv (.t 1), none⟩, ⟨some 57, .iaddrA 2 1 (.t 5) (.c (.int .i64 0)), none⟩, ⟨some 58, .load none (.t 57), none⟩, ⟨some 59, .iaddrA 2 1 (.t 5) (.c (.int .i64 1)), none⟩, ⟨some 60, .load none (.t 59), none⟩, ⟨some 61, .bin .add (.t 58) (.t 60), none⟩, ⟨some 62, .callP 8 [(.t 55), (.t 56), (.t 61)], none⟩, ⟨some 54, .mv (.t 62), none⟩, ⟨some 63, .extract 0 (.t 54), none⟩, ⟨some 64, .extract 1 (.t 54), none⟩, ⟨some 65, .extract 2 (.t 54), none⟩, ⟨some 10, .mv (.t 63), none⟩, ⟨some 11, .mv (.t 64), none⟩, ⟨some 12, .mv (.t 65), none⟩])
  (.seq (.seq (.ops false [⟨some 66, .mv (.t 8), none⟩, ⟨some 67, .iaddrA 2 1 (.t 5) (.c (.int .i64 0)), none⟩, ⟨some 68, .load none (.t 67), none⟩, ⟨some 69, .bin .gtr (.t 66) (.t 68), none⟩, ⟨some 70, .mv (.t 69), none⟩, ⟨some 71, .mv (.t 8), some (70, false)⟩, ⟨some 72, .mv (.t 11), some (70, false)⟩, ⟨some 73, .bin .gtr (.t 71) (.t 72), some (70, false)⟩, ⟨some 74, .pick (.t 70) (.c (.bool true)) (.t 73), none⟩])
  (.cond (.t 74) (.seq (.ops false [⟨some 6, .mv (.c (.bool false)), none⟩])
   (.ret))
   (.skip)))
  (.seq (.seq (.ops false [⟨some 75, .mv (.t 9), none⟩, ⟨some 76, .callP 11 [(.t 75)], none⟩, ⟨some 77, .bin .eql (.t 76) (.c (.int .i64 17)), none⟩])
  (.cond (.t 77) (.seq (.ops false [⟨some 78, .mv (.t 8), none⟩, ⟨some 79, .iaddrA 2 1 (.t 5) (.c (.int .i64 0)), none⟩, ⟨some 80, .load none (.t 79), none⟩, ⟨some 81, .bin .eql (.t 78) (.t 80), none⟩, ⟨some 82, .mv (.t 81), none⟩, ⟨some 83, .mv (.t 7), some (82, true)⟩, ⟨some 84, .mv (.t 1), some (82, true)⟩, ⟨some 85, .callP 10 [(.t 83), (.t 84)], some (82, true)⟩, ⟨some 86, .pick (.t 82) (.t 85) (.c (.bool false)), none⟩, ⟨some 87, .mv (.t 86), none⟩, ⟨some 88, .callP 7 [], some (87, true)⟩, ⟨some 89, .pick (.t 87) (.t 88) (.c (.bool false)), none⟩, ⟨some 6, .mv (.t 89), none⟩])
   (.ret))
   (.skip)))
  (.seq (.ops false [⟨some 91, .mv (.t 0), none⟩, ⟨some 92, .mv (.t 1), none⟩, ⟨some 93, .mv (.t 8), none⟩, ⟨some 94, .callP 8 [(.t 91), (.t 92), (.t 93)], none⟩, ⟨some 90, .mv (.t 94), none⟩, ⟨some 95, .extract 0 (.t 90), none⟩, ⟨some 96, .extract 1 (.t 90), none⟩, ⟨some 97, .extract 2 (.t 90), none⟩, ⟨some 13, .mv (.t 95), none⟩, ⟨some 14, .mv (.t 96), none⟩, ⟨some 15, .mv (.t 97), none⟩])
  (.seq (.ops false [⟨some 98, .mv (.t 7), none⟩, ⟨some 99, .mv (.t 10), none⟩, ⟨some 100, .callP 10 [(.t 98), (.t 99)], none⟩, ⟨some 101, .mv (.t 100), none⟩, ⟨some 102, .mv (.t 8), some (101, true)⟩, ⟨some 103, .mv (.t 11), some (101, true)⟩, ⟨some 104, .bin .eql (.t 102) (.t 103), some (101, true)⟩, ⟨some 105, .pick (.t 101) (.t 104) (.c (.bool false)), none⟩, ⟨some 106, .mv (.t 105), none⟩, ⟨some 107, .mv (.t 9), some (106, true)⟩, ⟨some 108, .mv (.t 12), some (106, true)⟩, ⟨some 109, .bin .eql (.t 107) (.t 108), some (106, true)⟩, ⟨some 110, .pick (.t 106) (.t 109) (.c (.bool false)), none⟩, ⟨some 111, .mv (.t 110), none⟩, ⟨some 112, .mv (.t 7), some (111, true)⟩, ⟨some 113, .mv (.t 13), some (111, true)⟩, ⟨some 114, .callP 10 [(.t 112), (.t 113)], some (111, true)⟩, ⟨some 115, .pick (.t 111) (.t 114) (.c (.bool false)), none⟩, ⟨some 116, .mv (.t 115), none⟩, ⟨some 117, .mv (.t 14), some (116, true)⟩, ⟨some 118, .mv (.t 8), some (116, true)⟩, ⟨some 119, .bin .eql (.t 117) (.t 118), some (116, true)⟩, ⟨some 120, .pick (.t 116) (.t 119) (.c (.bool false)), none⟩, ⟨some 121, .mv (.t 120), none⟩, ⟨some 122, .mv (.t 15), some (121, true)⟩, ⟨some 123, .mv (.t 9), some (121, true)⟩, ⟨some 124, .bin .eql (.t 122) (.t 123), some (121, true)⟩, ⟨some 125, .mv (.t 124), some (121, true)⟩, ⟨some 126, .mv (.t 9), some (125, false)⟩, ⟨some 127, .callP 11 [(.t 126)], some (125, false)⟩, ⟨some 128, .bin .eql (.t 127) (.c (.int .i64 13)), some (125, false)⟩, ⟨some 129, .pick (.t 125) (.c (.bool true)) (.t 128), some (121, true)⟩, ⟨some 130, .pick (.t 121) (.t 129) (.c (.bool false)), none⟩, ⟨some 131, .mv (.t 130), none⟩, ⟨some 132, .callP 7 [], some (131, true)⟩, ⟨some 133, .pick (.t 131) (.t 132) (.c (.bool false)), none⟩, ⟨some 6, .mv (.t 133), none⟩])
  (.ret)))))))),
  [.t 6]⟩

/- noria/norialaw30.VmRight -/
def d_norialaw30_VmRight : DFun := ⟨
  .seq (.ops false [⟨some 2, .box (.t 0), none⟩, ⟨some 4, .mv (.c (.bool false)), none⟩])
  (.seq (.seq (.ops false [⟨some 5, .faddr 0 (.t 2), none⟩, ⟨some 6, .load none (.t 5), none⟩, ⟨some 7, .len (.t 6), none⟩, ⟨some 8, .bin .gtr (.t 7) (.c (.int .i64 10)), none⟩, ⟨some 9, .mv (.t 8), none⟩, ⟨some 10, .faddr 1 (.t 2), some (9, false)⟩, ⟨some 11, .load none (.t 10), some (9, false)⟩, ⟨some 12, .len (.t 11), some (9, false)⟩, ⟨some 13, .bin .gtr (.t 12) (.c (.int .i64 1100)), some (9, false)⟩, ⟨some 14, .pick (.t 9) (.c (.bool true)) (.t 13), none⟩, ⟨some 15, .mv (.t 14), none⟩, ⟨some 16, .mv (.t 1), some (15, false)⟩, ⟨some 17, .len (.t 16), some (15, false)⟩, ⟨some 18, .bin .gtr (.t 17) (.c (.int .i64 1200)), some (15, false)⟩, ⟨some 19, .pick (.t 15) (.c (.bool true)) (.t 18), none⟩])
  (.cond (.t 19) (.seq (.ops false [⟨some 20, .callP 7 [], none⟩, ⟨some 4, .mv (.t 20), none⟩])
   (.ret))
   (.skip)))
  (.seq (.opsP [(0, ⟨some 21, .load (some 4) (.t 2), none⟩), (1, ⟨some 22, .mv (.t 1), none⟩), (3, ⟨some 24, .load (some 4) (.t 2), none⟩), (4, ⟨some 25, .mv (.t 1), none⟩), (2, ⟨some 23, .callP 12 [(.t 21), (.t 22)], none⟩), (5, ⟨some 26, .callP 13 [(.t 24), (.t 25)], none⟩), (6, ⟨some 27, .beq false (.t 23) (.t 26), none⟩), (7, ⟨some 28, .mv (.t 27), none⟩), (8, ⟨some 29, .callP 7 [], some (28, true)⟩), (9, ⟨some 30, .pick (.t 28) (.t 29) (.c (.bool false)), none⟩), (10, ⟨some 4, .mv (.t 30), none⟩)])
  (.ret))),
  [.t 4]⟩

/- noria/norialaw30.VmSafe -/
def d_norialaw30_VmSafe : DFun := ⟨
  .seq (.ops false [⟨some 3, .box (.t 0), none⟩, ⟨some 6, .mv (.c (.bool false)), none⟩])
  (.seq (.seq (.ops false [⟨some 13, .faddr 0 (.t 3), none⟩, ⟨some 14, .load none (.t 13), none⟩, ⟨some 15, .len (.t 14), none⟩, ⟨some 16, .bin .gtr (.t 15) (.c (.int .i64 10)), none⟩, ⟨some 17, .mv (.t 16), none⟩, ⟨some 18, .faddr 1 (.t 3), some (17, false)⟩, ⟨some 19, .load none (.t 18), some (17, false)⟩, ⟨some 20, .len (.t 19), some (17, false)⟩, ⟨some 21, .bin .gtr (.t 20) (.c (.int .i64 1100)), some (17, false)⟩, ⟨some 22, .pick (.t 17) (.c (.bool true)) (.t 21), none⟩, ⟨some 23, .mv (.t 22), none⟩, ⟨some 24, .mv (.t 1), some (23, false)⟩, ⟨some 25, .len (.t 24), some (23, false)⟩, ⟨some 26, .bin .gtr (.t 25) (.c (.int .i64 400)), some (23, false)⟩, ⟨some 27, .pick (.t 23) (.c (.bool true)) (.t 26), none⟩, ⟨some 28, .mv (.t 27), none⟩, ⟨some 29, .load (some 4) (.t 3), some (28, false)⟩, ⟨some 30, .mv (.t 2), some (28, false)⟩, ⟨some 31, .callP 13 [(.t 29), (.t 30)], some (28, false)⟩, ⟨some 32, .un .not (.t 31), some (28, false)⟩, ⟨some 33, .pick (.t 28) (.c (.bool true)) (.t 32), none⟩])
  (.cond (.t 33) (.seq (.ops false [⟨some 34, .callP 7 [], none⟩, ⟨some 6, .mv (.t 34), none⟩])
   (.ret))
   (.skip)))
  (.seq (.ops false [⟨some 36, .load (some 4) (.t 3), none⟩, ⟨some 37, .mv (.t 1), none⟩, ⟨some 38, .callP 14 [(.t 36), (.t 37)], none⟩, ⟨some 35, .mv (.t 38), none⟩, ⟨some 39, .extract 0 (.t 35), none⟩, ⟨some 40, .extract 1 (.t 35), none⟩, ⟨some 7, .mv (.t 39), none⟩, ⟨some 8, .mv (.t 40), none⟩])
  (.seq (.seq (.ops false [⟨some 41, .mv (.t 8), none⟩, ⟨some 42, .un .not (.t 41), none⟩])
  (.cond (.t 42) (.seq (.ops false [⟨some 43, .callP 7 [], none⟩, ⟨some 6, .mv (.t 43), none⟩])
   (.ret))
   (.skip)))
  (.seq (.ops false [⟨some 45, .mv (.t 1), none⟩, ⟨some 46, .mv (.t 2), none⟩, ⟨some 47, .mv (.t 1), none⟩, ⟨some 48, .len (.t 47), none⟩, ⟨some 49, .callP 8 [(.t 45), (.t 46), (.t 48)], none⟩, ⟨some 44, .mv (.t 49), none⟩, ⟨some 50, .extract 0 (.t 44), none⟩, ⟨some 51, .extract 1 (.t 44), none⟩, ⟨some 52, .extract 2 (.t 44), none⟩, ⟨some 9, .mv (.t 50), none⟩, ⟨some 10, .mv (.t 51), none⟩, ⟨some 11, .mv (.t 52), none⟩])
  (.seq (.seq (.ops false [⟨some 53, .mv (.t 10), none⟩, ⟨some 54, .bin .lss (.t 53) (.c (.int .i64 1)), none⟩, ⟨some 55, .mv (.t 54), none⟩, ⟨some 56, .mv (.t 10), some (55, false)⟩, ⟨some 57, .mv (.t 1), some (55, false)⟩, ⟨some 58, .len (.t 57), some (55, false)⟩, ⟨some 59, .bin .gtr (.t 56) (.t 58), some (55, false)⟩, ⟨some 60, .pick (.t 55) (.c (.bool true)) (.t 59), none⟩, ⟨some 61, .mv (.t 60), none⟩, ⟨some 62, .mv (.t 11), some (61, false)⟩, ⟨some 63, .callP 11 [(.t 62)], some (61, false)⟩, ⟨some 64, .bin .neq (.t 63) (.c (.int .i64 0)), some (61, false)⟩, ⟨some 65, .mv (.t 64), some (61, false)⟩, ⟨some 66, .mv (.t 11), some (65, true)⟩, ⟨some 67, .callP 11 [(.t 66)], some (65, true)⟩, ⟨some 68, .bin .neq (.t 67) (.c (.int .i64 15)), some (65, true)⟩, ⟨some 69, .pick (.t 65) (.t 68) (.c (.bool false)), some (61, false)⟩, ⟨some 70, .mv (.t 69), some (61, false)⟩, ⟨some 71, .mv (.t 11), some (70, true)⟩, ⟨some 72, .callP 11 [(.t 71)], some (70, true)⟩, ⟨some 73, .bin .neq (.t 72) (.c (.int .i64 16)), some (70, true)⟩, ⟨some 74, .pick (.t 70) (.t 73) (.c (.bool false)), some (61, false)⟩, ⟨some 75, .pick (.t 61) (.c (.bool true)) (.t 74), none⟩])
  (.cond (.t 75) (.seq (.ops false [⟨some 6, .mv (.c (.bool false)), none⟩])
   (.ret))
   (.skip)))
  (.seq (.seq (.ops false [⟨some 76, .mv (.t 11), none⟩, ⟨some 77, .callP 11 [(.t 76)], none⟩, ⟨some 78, .bin .neq (.t 77) (.c (.int .i64 0)), none⟩])
  (.cond (.t 78) (.seq (.ops false [⟨some 79, .mv (.t 9), none⟩, ⟨some 80, .mv (.t 2), none⟩, ⟨some 81, .callP 10 [(.t 79), (.t 80)], none⟩, ⟨some 82, .mv (.t 81), none⟩, ⟨some 83, .callP 7 [], some (82, true)⟩, ⟨some 84, .pick (.t 82) (.t 83) (.c (.bool false)), none⟩, ⟨some 6, .mv (.t 84), none⟩])
   (.ret))
   (.skip)))
  (.seq (.seq (.ops false [⟨some 85, .faddr 2 (.t 3), none⟩, ⟨some 86, .load none (.t 85), none⟩, ⟨some 12, .mv (.t 86), none⟩])
  (.block 0 (.loop [2, 3, 9, 12] (some 1) (.seq (.seq (.ops false [⟨some 87, .mv (.t 12), none⟩, ⟨some 88, .faddr 3 (.t 3), none⟩, ⟨some 89, .load none (.t 88), none⟩, ⟨some 90, .bin .lss (.t 87) (.t 89), none⟩])
    (.cond (.t 90) (.skip)
     (.exit 0)))
    (.seq (.block 1 (.seq (.ops true [⟨some 93, .mv (.t 12), none⟩, ⟨some 94, .mv (.t 9), none⟩, ⟨some 95, .len (.t 94), none⟩, ⟨some 96, .bin .geq (.t 93) (.t 95), none⟩, ⟨some 97, .mv (.t 96), none⟩, ⟨some 98, .mv (.t 9), some (97, false)⟩, ⟨some 99, .mv (.t 12), some (97, false)⟩, ⟨some 100, .iaddr 1 (.t 98) (.t 99), some (97, false)⟩, ⟨some 101, .load none (.t 100), some (97, false)⟩, ⟨some 102, .mv (.t 2), some (97, false)⟩, ⟨some 103, .mv (.t 12), some (97, false)⟩, ⟨some 104, .iaddr 1 (.t 102) (.t 103), some (97, false)⟩, ⟨some 105, .load none (.t 104), some (97, false)⟩, ⟨some 106, .bin .neq (.t 101) (.t 105), some (97, false)⟩, ⟨some 107, .pick (.t 97) (.c (.bool true)) (.t 106), none⟩])
     (.cond (.t 107) (.seq (.ops false [⟨some 6, .mv (.c (.bool false)), none⟩])
      (.ret))
      (.skip))))
    (.ops false [⟨some 91, .mv (.t 12), none⟩, ⟨some 92, .bin .add (.t 91) (.c (.int .i64 1)), none⟩, ⟨some 12, .mv (.t 92), none⟩]))))))
  (.seq (.ops false [⟨some 108, .load (some 4) (.t 3), none⟩, ⟨some 109, .mv (.t 9), none⟩, ⟨some 110, .callP 12 [(.t 108), (.t 109)], none⟩, ⟨some 111, .mv (.t 110), none⟩, ⟨some 112, .callP 7 [], some (111, true)⟩, ⟨some 113, .pick (.t 111) (.t 112) (.c (.bool false)), none⟩, ⟨some 6, .mv (.t 113), none⟩])
  (.ret))))))))),
  [.t 6]⟩

/- noria/norialaw30.live -/
def d_norialaw30_live : DFun := ⟨
  .seq (.ops false [⟨some 0, .mv (.c (.bool false)), none⟩])
  (.seq (.ops false [⟨some 8, .build [.int .i64 0, .int .i64 0, .int .i64 0, .int .i64 0] [(0, 1, (.c (.int .i64 1))), (1, 1, (.c (.int .i64 1))), (3, 1, (.c (.int .i64 5)))], none⟩, ⟨some 9, .build [.int .i64 0, .int .i64 0, .int .i64 0, .int .i64 0] [(0, 1, (.c (.int .i64 3)))], none⟩, ⟨some 10, .build [.int .i64 0, .int .i64 0, .int .i64 0, .int .i64 0] [(0, 1, (.c (.int .i64 10)))], none⟩, ⟨some 11, .bslice true [.int .i64 0, .int .i64 0, .int .i64 0, .int .i64 0] [(some (.t 8)), (some (.t 9)), (some (.t 10))], none⟩, ⟨some 1, .mv (.t 11), none⟩])
  (.seq (.ops false [⟨some 13, .mv (.t 1), none⟩, ⟨some 14, .bslice true [.int .i64 0] [(some (.c (.int .i64 0)))], none⟩, ⟨some 15, .callP 8 [(.t 13), (.t 14), (.c (.int .i64 3))], none⟩, ⟨some 12, .mv (.t 15), none⟩, ⟨some 16, .extract 0 (.t 12), none⟩, ⟨some 17, .extract 1 (.t 12), none⟩, ⟨some 18, .extract 2 (.t 12), none⟩, ⟨some 2, .mv (.t 16), none⟩, ⟨some 3, .mv (.t 17), none⟩, ⟨some 4, .mv (.t 18), none⟩])
  (.seq (.ops false [⟨some 20, .mv (.t 1), none⟩, ⟨some 21, .bslice true [.int .i64 0] [(some (.c (.int .i64 0)))], none⟩, ⟨some 22, .callP 8 [(.t 20), (.t 21), (.c (.int .i64 2))], none⟩, ⟨some 19, .mv (.t 22), none⟩, ⟨some 23, .extract 0 (.t 19), none⟩, ⟨some 24, .extract 1 (.t 19), none⟩, ⟨some 25, .extract 2 (.t 19), none⟩, ⟨some 5, .mv (.t 23), none⟩, ⟨some 6, .mv (.t 24), none⟩, ⟨some 7, .mv (.t 25), none⟩])
  (.seq (.ops false [⟨some 26, .mv (.t 2), none⟩, ⟨some 27, .bslice true [.int .i64 0] [(some (.c (.int .i64 5)))], none⟩, ⟨some 28, .callP 10 [(.t 26), (.t 27)], none⟩, ⟨some 29, .mv (.t 28), none⟩, ⟨some 30, .mv (.t 3), some (29, true)⟩, ⟨some 31, .bin .eql (.t 30) (.c (.int .i64 3)), some (29, true)⟩, ⟨some 32, .pick (.t 29) (.t 31) (.c (.bool false)), none⟩, ⟨some 33, .mv (.t 32), none⟩, ⟨some 34, .mv (.t 4), some (33, true)⟩, ⟨some 35, .callP 11 [(.t 34)], some (33, true)⟩, ⟨some 36, .bin .eql (.t 35) (.c (.int .i64 0)), some (33, true)⟩, ⟨some 37, .pick (.t 33) (.t 36) (.c (.bool false)), none⟩, ⟨some 38, .mv (.t 37), none⟩, ⟨some 39, .mv (.t 7), some (38, true)⟩, ⟨some 40, .callP 11 [(.t 39)], some (38, true)⟩, ⟨some 41, .bin .eql (.t 40) (.c (.int .i64 17)), some (38, true)⟩, ⟨some 42, .pick (.t 38) (.t 41) (.c (.bool false)), none⟩, ⟨some 0, .mv (.t 42), none⟩])
  (.ret))))),
  [.t 0]⟩

/- noria/vm.Run -/
def d_vm_Run : DFun := ⟨
  .seq (.ops false [⟨some 6, .mv (.c (.nil)), none⟩, ⟨some 7, .mv (.c (.int .i64 0)), none⟩, ⟨some 8, .mv (.c (.int .i64 0)), none⟩])
  (.seq (.ops false [⟨some 11, .mv (.t 1), none⟩, ⟨some 12, .callH 15 [(.t 11)], none⟩, ⟨some 13, .build [.nil, .int .i64 0, .int .i64 0, .int .i64 0, .int .i64 0, .int .i64 0, .int .i64 0, .int .i64 0, .int .i64 0, .int .i64 0, .int .i64 0, .int .i64 0, .int .i64 0, .int .i64 0, .int .i64 0, .int .i64 0, .int .i64 0, .int .i64 0, .int .i64 0, .int .i64 0] [(0, 1, (.t 12))], none⟩, ⟨some 14, .box (.t 13), none⟩, ⟨some 9, .mv (.t 14), none⟩])
  (.seq (.seq (.ops false [⟨some 15, .mv (.t 9), none⟩, ⟨some 16, .mv (.t 0), none⟩, ⟨some 17, .mv (.t 2), none⟩, ⟨some 18, .callH 16 [(.t 15), (.t 16), (.t 17)], none⟩, ⟨some 10, .mv (.t 18), none⟩])
  (.seq (.ops false [⟨some 19, .mv (.t 10), none⟩, ⟨some 20, .bin .neq (.t 19) (.c (.int .i64 0)), none⟩])
  (.cond (.t 20) (.seq (.opsP [(0, ⟨some 21, .mv (.t 1), none⟩), (2, ⟨some 23, .mv (.t 9), none⟩), (3, ⟨some 24, .nilck (.t 23), none⟩), (4, ⟨some 25, .faddr 19 (.t 24), none⟩), (5, ⟨some 26, .load none (.t 25), none⟩), (6, ⟨some 27, .mv (.t 10), none⟩), (1, ⟨some 22, .callP 15 [(.t 21)], none⟩), (7, ⟨some 6, .mv (.t 22), none⟩), (8, ⟨some 7, .mv (.t 26), none⟩), (9, ⟨some 8, .mv (.t 27), none⟩)])
   (.ret))
   (.skip))))
  (.seq (.ops true [⟨some 28, .mv (.t 9), none⟩, ⟨some 29, .nilck (.t 28), none⟩, ⟨some 30, .faddr 0 (.t 29), none⟩, ⟨some 31, .load none (.t 30), none⟩, ⟨some 32, .mv (.t 9), none⟩, ⟨some 33, .nilck (.t 32), none⟩, ⟨some 34, .faddr 19 (.t 33), none⟩, ⟨some 35, .load none (.t 34), none⟩, ⟨some 6, .mv (.t 31), none⟩, ⟨some 7, .mv (.t 35), none⟩, ⟨some 8, .mv (.c (.int .i64 0)), none⟩])
  (.ret)))),
  [.t 6, .t 7, .t 8]⟩

/- noria/noriaref30.Run -/
def d_noriaref30_Run : DFun := ⟨
  .seq (.ops false [⟨some 6, .mv (.c (.nil)), none⟩, ⟨some 7, .mv (.c (.int .i64 0)), none⟩, ⟨some 8, .mv (.c (.int .i64 0)), none⟩])
  (.seq (.ops false [⟨some 11, .bslice false [.int .i64 0] [], none⟩, ⟨some 12, .mv (.t 1), none⟩, ⟨some 13, .append 1 (.t 11) (.t 12), none⟩, ⟨some 14, .build [.nil, .sl [], .int .i64 0, .int .i64 0] [(0, 1, (.t 13))], none⟩, ⟨some 15, .box (.t 14), none⟩, ⟨some 9, .mv (.t 15), none⟩])
  (.seq (.ops false [⟨some 10, .mv (.c (.int .i64 0)), none⟩])
  (.seq (.block 0 (.loop [0, 1, 2, 9, 10] (some 2) (.seq (.seq (.ops false [⟨some 16, .mv (.t 9), none⟩, ⟨some 17, .nilck (.t 16), none⟩, ⟨some 18, .faddr 3 (.t 17), none⟩, ⟨some 19, .load none (.t 18), none⟩, ⟨some 20, .bin .eql (.t 19) (.c (.int .i64 0)), none⟩])
    (.cond (.t 20) (.skip)
     (.exit 0)))
    (.block 1 (.seq (.seq (.ops false [⟨some 21, .mv (.t 9), none⟩, ⟨some 22, .nilck (.t 21), none⟩, ⟨some 23, .faddr 2 (.t 22), none⟩, ⟨some 24, .load none (.t 23), none⟩, ⟨some 25, .mv (.t 0), none⟩, ⟨some 26, .len (.t 25), none⟩, ⟨some 27, .bin .geq (.t 24) (.t 26), none⟩])
     (.cond (.t 27) (.seq (.ops false [⟨some 28, .mv (.t 1), none⟩, ⟨some 29, .mv (.t 10), none⟩, ⟨some 6, .mv (.t 28), none⟩, ⟨some 7, .mv (.t 29), none⟩, ⟨some 8, .mv (.c (.int .i64 13)), none⟩])
      (.ret))
      (.skip)))
     (.seq (.seq (.ops false [⟨some 30, .mv (.t 10), none⟩, ⟨some 31, .mv (.t 2), none⟩, ⟨some 32, .bin .geq (.t 30) (.t 31), none⟩])
     (.cond (.t 32) (.seq (.ops false [⟨some 33, .mv (.t 1), none⟩, ⟨some 34, .mv (.t 10), none⟩, ⟨some 6, .mv (.t 33), none⟩, ⟨some 7, .mv (.t 34), none⟩, ⟨some 8, .mv (.c (.int .i64 17)), none⟩])
      (.ret))
      (.skip)))
     (.seq (.ops false [⟨some 35, .mv (.t 10), none⟩, ⟨some 36, .bin .add (.t 35) (.c (.int .i64 1)), none⟩, ⟨some 10, .mv (.t 36), none⟩])
     (.seq (.seq (.ops false [⟨some 37, .mv (.t 0), none⟩, ⟨some 38, .mv (.t 9), none⟩, ⟨some 39, .nilck (.t 38), none⟩, ⟨some 40, .faddr 2 (.t 39), none⟩, ⟨some 41, .load none (.t 40), none⟩, ⟨some 42, .iaddr 4 (.t 37) (.t 41), none⟩, ⟨some 43, .load (some 4) (.t 42), none⟩, ⟨some 44, .callP 17 [(.t 43)], none⟩, ⟨some 45, .un .not (.t 44), none⟩])
     (.cond (.t 45) (.seq (.ops false [⟨some 46, .mv (.t 1), none⟩, ⟨some 47, .mv (.t 10), none⟩, ⟨some 6, .mv (.t 46), none⟩, ⟨some 7, .mv (.t 47), none⟩, ⟨some 8, .mv (.c (.int .i64 13)), none⟩])
      (.ret))
      (.skip)))
     (.ops false [⟨some 48, .mv (.t 9), none⟩, ⟨some 49, .mv (.t 0), none⟩, ⟨some 50, .mv (.t 9), none⟩, ⟨some 51, .nilck (.t 50), none⟩, ⟨some 52, .faddr 2 (.t 51), none⟩, ⟨some 53, .load none (.t 52), none⟩, ⟨some 54, .iaddr 4 (.t 49) (.t 53), none⟩, ⟨some 55, .load (some 4) (.t 54), none⟩, ⟨some 56, .callH 18 [(.t 48), (.t 55)], none⟩])))))))))
  (.seq (.seq (.ops false [⟨some 57, .mv (.t 9), none⟩, ⟨some 58, .nilck (.t 57), none⟩, ⟨some 59, .faddr 3 (.t 58), none⟩, ⟨some 60, .load none (.t 59), none⟩, ⟨some 61, .bin .neq (.t 60) (.c (.int .i64 (-1))), none⟩])
  (.cond (.t 61) (.seq (.ops true [⟨some 62, .mv (.t 1), none⟩, ⟨some 63, .mv (.t 10), none⟩, ⟨some 64, .mv (.t 9), none⟩, ⟨some 65, .nilck (.t 64), none⟩, ⟨some 66, .faddr 3 (.t 65), none⟩, ⟨some 67, .load none (.t 66), none⟩, ⟨some 6, .mv (.t 62), none⟩, ⟨some 7, .mv (.t 63), none⟩, ⟨some 8, .mv (.t 67), none⟩])
   (.ret))
   (.skip)))
  (.seq (.ops false [⟨some 68, .mv (.t 9), none⟩, ⟨some 69, .nilck (.t 68), none⟩, ⟨some 70, .faddr 0 (.t 69), none⟩, ⟨some 71, .load none (.t 70), none⟩, ⟨some 72, .mv (.t 10), none⟩, ⟨some 6, .mv (.t 71), none⟩, ⟨some 7, .mv (.t 72), none⟩, ⟨some 8, .mv (.c (.int .i64 0)), none⟩])
  (.ret)))))),
  [.t 6, .t 7, .t 8]⟩

/- noria/noriaref01.Vals -/
def d_noriaref01_Vals : DFun := ⟨
  .seq (.ops false [⟨some 4, .mv (.c (.bool false)), none⟩])
  (.seq (.seq (.ops false [⟨some 6, .mv (.t 0), none⟩, ⟨some 7, .len (.t 6), none⟩, ⟨some 8, .mv (.t 1), none⟩, ⟨some 9, .len (.t 8), none⟩, ⟨some 10, .bin .neq (.t 7) (.t 9), none⟩])
  (.cond (.t 10) (.seq (.ops false [⟨some 4, .mv (.c (.bool false)), none⟩])
   (.ret))
   (.skip)))
  (.seq (.seq (.ops false [⟨some 5, .mv (.c (.int .i64 0)), none⟩])
  (.block 0 (.loop [0, 1, 5] (some 0) (.seq (.seq (.ops false [⟨some 11, .mv (.t 5), none⟩, ⟨some 12, .mv (.t 0), none⟩, ⟨some 13, .len (.t 12), none⟩, ⟨some 14, .bin .lss (.t 11) (.t 13), none⟩])
    (.cond (.t 14) (.skip)
     (.exit 0)))
    (.seq (.block 1 (.seq (.ops true [⟨some 17, .mv (.t 0), none⟩, ⟨some 18, .mv (.t 5), none⟩, ⟨some 19, .iaddr 1 (.t 17) (.t 18), none⟩, ⟨some 20, .load none (.t 19), none⟩, ⟨some 21, .mv (.t 1), none⟩, ⟨some 22, .mv (.t 5), none⟩, ⟨some 23, .iaddr 1 (.t 21) (.t 22), none⟩, ⟨some 24, .load none (.t 23), none⟩, ⟨some 25, .bin .neq (.t 20) (.t 24), none⟩])
     (.cond (.t 25) (.seq (.ops false [⟨some 4, .mv (.c (.bool false)), none⟩])
      (.ret))
      (.skip))))
    (.ops false [⟨some 15, .mv (.t 5), none⟩, ⟨some 16, .bin .add (.t 15) (.c (.int .i64 1)), none⟩, ⟨some 5, .mv (.t 16), none⟩]))))))
  (.seq (.ops false [⟨some 4, .mv (.c (.bool true)), none⟩])
  (.ret)))),
  [.t 4]⟩

/- noria/norialaw30.num -/
def d_norialaw30_num : DFun := ⟨
  .seq (.ops false [⟨some 2, .mv (.c (.int .i64 0)), none⟩])
  (.seq (.ops false [⟨some 3, .mv (.t 0), none⟩, ⟨some 2, .mv (.t 3), none⟩])
  (.ret)),
  [.t 2]⟩

/- noria/vm.Right -/
def d_vm_Right : DFun := ⟨
  .seq (.ops false [⟨some 2, .box (.t 0), none⟩, ⟨some 4, .mv (.c (.bool false)), none⟩])
  (.seq (.seq (.ops false [⟨some 8, .load (some 4) (.t 2), none⟩, ⟨some 9, .callP 19 [(.t 8)], none⟩, ⟨some 10, .un .not (.t 9), none⟩, ⟨some 11, .mv (.t 10), none⟩, ⟨some 12, .mv (.t 1), some (11, false)⟩, ⟨some 13, .len (.t 12), some (11, false)⟩, ⟨some 14, .faddr 1 (.t 2), some (11, false)⟩, ⟨some 15, .load none (.t 14), some (11, false)⟩, ⟨some 16, .len (.t 15), some (11, false)⟩, ⟨some 17, .bin .neq (.t 13) (.t 16), some (11, false)⟩, ⟨some 18, .pick (.t 11) (.c (.bool true)) (.t 17), none⟩])
  (.cond (.t 18) (.seq (.ops false [⟨some 4, .mv (.c (.bool false)), none⟩])
   (.ret))
   (.skip)))
  (.seq (.seq (.ops false [⟨some 19, .faddr 1 (.t 2), none⟩, ⟨some 20, .load none (.t 19), none⟩, ⟨some 21, .len (.t 20), none⟩, ⟨some 22, .mv (.c (.int .i64 0)), none⟩])
  (.block 0 (.loop [1, 2, 20, 21, 22] (some 1) (.seq (.ops false [⟨some 23, .bin .lss (.t 22) (.t 21), none⟩])
    (.seq (.cond (.t 23) (.skip)
     (.exit 0))
    (.seq (.block 1 (.seq (.ops false [⟨some 24, .mv (.t 22), none⟩, ⟨some 25, .iaddr 1 (.t 20) (.t 22), none⟩, ⟨some 26, .load none (.t 25), none⟩, ⟨some 5, .mv (.t 24), none⟩, ⟨some 6, .mv (.t 26), none⟩])
     (.seq (.ops false [⟨some 27, .mv (.t 1), none⟩, ⟨some 28, .mv (.t 5), none⟩, ⟨some 29, .iaddr 1 (.t 27) (.t 28), none⟩, ⟨some 30, .load none (.t 29), none⟩, ⟨some 7, .mv (.t 30), none⟩])
     (.block 2 (.seq (.ops false [⟨some 32, .mv (.t 6), none⟩, ⟨some 33, .bin .eql (.t 32) (.c (.int .i64 2)), none⟩, ⟨some 34, .mv (.t 33), none⟩, ⟨some 35, .mv (.t 7), some (34, true)⟩, ⟨some 36, .bin .neq (.t 35) (.c (.int .i64 0)), some (34, true)⟩, ⟨some 37, .pick (.t 34) (.t 36) (.c (.bool false)), none⟩, ⟨some 38, .mv (.t 37), none⟩, ⟨some 39, .mv (.t 7), some (38, true)⟩, ⟨some 40, .bin .neq (.t 39) (.c (.int .i64 1)), some (38, true)⟩, ⟨some 41, .pick (.t 38) (.t 40) (.c (.bool false)), none⟩, ⟨some 31, .mv (.t 41), none⟩])
      (.cond (.t 31) (.seq (.ops false [⟨some 4, .mv (.c (.bool false)), none⟩])
       (.ret))
       (.seq (.ops false [⟨some 43, .mv (.t 6), none⟩, ⟨some 44, .bin .geq (.t 43) (.c (.int .i64 3)), none⟩, ⟨some 45, .mv (.t 44), none⟩, ⟨some 46, .mv (.t 7), some (45, true)⟩, ⟨some 47, .bin .lss (.t 46) (.c (.int .i64 0)), some (45, true)⟩, ⟨some 48, .mv (.t 47), some (45, true)⟩, ⟨some 49, .mv (.t 7), some (48, false)⟩, ⟨some 50, .faddr 0 (.t 2), some (48, false)⟩, ⟨some 51, .load none (.t 50), some (48, false)⟩, ⟨some 52, .mv (.t 6), some (48, false)⟩, ⟨some 53, .bin .sub (.t 52) (.c (.int .i64 3)), some (48, false)⟩, ⟨some 54, .iaddr 1 (.t 51) (.t 53), some (48, false)⟩, ⟨some 55, .load none (.t 54), some (48, false)⟩, ⟨some 56, .bin .geq (.t 49) (.t 55), some (48, false)⟩, ⟨some 57, .pick (.t 48) (.c (.bool true)) (.t 56), some (45, true)⟩, ⟨some 58, .pick (.t 45) (.t 57) (.c (.bool false)), none⟩, ⟨some 42, .mv (.t 58), none⟩])
       (.cond (.t 42) (.seq (.ops false [⟨some 4, .mv (.c (.bool false)), none⟩])
        (.ret))
        (.skip)))))))))
    (.ops false [⟨some 59, .bin .add (.t 22) (.c (.int .i64 1)), none⟩, ⟨some 22, .mv (.t 59), none⟩])))))))
  (.seq (.ops false [⟨some 4, .mv (.c (.bool true)), none⟩])
  (.ret)))),
  [.t 4]⟩

/- noria/noriaref30.Right -/
def d_noriaref30_Right : DFun := ⟨
  .seq (.ops false [⟨some 2, .box (.t 0), none⟩, ⟨some 4, .mv (.c (.bool false)), none⟩])
  (.seq (.seq (.ops false [⟨some 6, .load (some 4) (.t 2), none⟩, ⟨some 7, .callP 20 [(.t 6)], none⟩, ⟨some 8, .un .not (.t 7), none⟩, ⟨some 9, .mv (.t 8), none⟩, ⟨some 10, .mv (.t 1), some (9, false)⟩, ⟨some 11, .len (.t 10), some (9, false)⟩, ⟨some 12, .faddr 1 (.t 2), some (9, false)⟩, ⟨some 13, .load none (.t 12), some (9, false)⟩, ⟨some 14, .len (.t 13), some (9, false)⟩, ⟨some 15, .bin .neq (.t 11) (.t 14), some (9, false)⟩, ⟨some 16, .pick (.t 9) (.c (.bool true)) (.t 15), none⟩])
  (.cond (.t 16) (.seq (.ops false [⟨some 4, .mv (.c (.bool false)), none⟩])
   (.ret))
   (.skip)))
  (.seq (.seq (.ops false [⟨some 5, .mv (.c (.int .i64 0)), none⟩])
  (.block 0 (.loop [1, 2, 5] (some 1) (.seq (.seq (.ops false [⟨some 17, .mv (.t 5), none⟩, ⟨some 18, .mv (.t 1), none⟩, ⟨some 19, .len (.t 18), none⟩, ⟨some 20, .bin .lss (.t 17) (.t 19), none⟩])
    (.cond (.t 20) (.skip)
     (.exit 0)))
    (.seq (.block 1 (.seq (.ops true [⟨some 23, .load (some 4) (.t 2), none⟩, ⟨some 24, .faddr 1 (.t 2), none⟩, ⟨some 25, .load none (.t 24), none⟩, ⟨some 26, .mv (.t 5), none⟩, ⟨some 27, .iaddr 1 (.t 25) (.t 26), none⟩, ⟨some 28, .load none (.t 27), none⟩, ⟨some 29, .mv (.t 1), none⟩, ⟨some 30, .mv (.t 5), none⟩, ⟨some 31, .iaddr 1 (.t 29) (.t 30), none⟩, ⟨some 32, .load none (.t 31), none⟩, ⟨some 33, .callP 21 [(.t 23), (.t 28), (.t 32)], none⟩, ⟨some 34, .un .not (.t 33), none⟩])
     (.cond (.t 34) (.seq (.ops false [⟨some 4, .mv (.c (.bool false)), none⟩])
      (.ret))
      (.skip))))
    (.ops false [⟨some 21, .mv (.t 5), none⟩, ⟨some 22, .bin .add (.t 21) (.c (.int .i64 1)), none⟩, ⟨some 5, .mv (.t 22), none⟩]))))))
  (.seq (.ops false [⟨some 4, .mv (.c (.bool true)), none⟩])
  (.ret)))),
  [.t 4]⟩

def c_noriaref29_Check_1 : DCode := (.seq (.ops false [⟨some 13, .mv (.c (.int .i64 0)), none⟩])
     (.block 2 (.loop [1, 2, 6, 7, 8, 10, 12, 13] (some 5) (.seq (.seq (.ops false [⟨some 112, .mv (.t 13), none⟩, ⟨some 113, .mv (.t 12), none⟩, ⟨some 114, .len (.t 113), none⟩, ⟨some 115, .bin .lss (.t 112) (.t 114), none⟩])
       (.cond (.t 115) (.skip)
        (.exit 2)))
       (.seq (.block 3 (.seq (.seq (.ops false [⟨some 118, .mv (.t 12), none⟩, ⟨some 119, .mv (.t 13), none⟩, ⟨some 120, .iaddr 1 (.t 118) (.t 119), none⟩, ⟨some 121, .load none (.t 120), none⟩, ⟨some 122, .mv (.t 1), none⟩, ⟨some 123, .len (.t 122), none⟩, ⟨some 124, .bin .geq (.t 121) (.t 123), none⟩, ⟨some 125, .mv (.t 124), none⟩, ⟨some 126, .mv (.t 6), some (125, false)⟩, ⟨some 127, .mv (.t 12), some (125, false)⟩, ⟨some 128, .mv (.t 13), some (125, false)⟩, ⟨some 129, .iaddr 1 (.t 127) (.t 128), some (125, false)⟩, ⟨some 130, .load none (.t 129), some (125, false)⟩, ⟨some 131, .iaddr 1 (.t 126) (.t 130), some (125, false)⟩, ⟨some 132, .load none (.t 131), some (125, false)⟩, ⟨some 133, .mv (.t 132), some (125, false)⟩, ⟨some 134, .mv (.t 7), some (133, true)⟩, ⟨some 135, .mv (.t 12), some (133, true)⟩, ⟨some 136, .mv (.t 13), some (133, true)⟩, ⟨some 137, .iaddr 1 (.t 135) (.t 136), some (133, true)⟩, ⟨some 138, .load none (.t 137), some (133, true)⟩, ⟨some 139, .iaddr 1 (.t 134) (.t 138), some (133, true)⟩, ⟨some 140, .load none (.t 139), some (133, true)⟩, ⟨some 141, .mv (.t 10), some (133, true)⟩, ⟨some 142, .callP 23 [(.t 140), (.t 141)], some (133, true)⟩, ⟨some 143, .un .not (.t 142), some (133, true)⟩, ⟨some 144, .pick (.t 133) (.t 143) (.c (.bool false)), some (125, false)⟩, ⟨some 145, .pick (.t 125) (.c (.bool true)) (.t 144), none⟩])
        (.cond (.t 145) (.seq (.ops false [⟨some 146, .mv (.t 8), none⟩, ⟨some 4, .mv (.t 146), none⟩, ⟨some 5, .mv (.c (.bool false)), none⟩])
         (.ret))
         (.skip)))
        (.ops true [⟨some 147, .mv (.t 6), none⟩, ⟨some 148, .mv (.t 12), none⟩, ⟨some 149, .mv (.t 13), none⟩, ⟨some 150, .iaddr 1 (.t 148) (.t 149), none⟩, ⟨some 151, .load none (.t 150), none⟩, ⟨some 152, .mv (.t 7), none⟩, ⟨some 153, .mv (.t 12), none⟩, ⟨some 154, .mv (.t 13), none⟩, ⟨some 155, .iaddr 1 (.t 153) (.t 154), none⟩, ⟨some 156, .load none (.t 155), none⟩, ⟨some 157, .mv (.t 10), none⟩, ⟨some 158, .iaddr 1 (.t 147) (.t 151), none⟩, ⟨none, .store 1 (.t 158) (.c (.bool true)), none⟩, ⟨some 159, .iaddr 1 (.t 152) (.t 156), none⟩, ⟨none, .store 1 (.t 159) (.t 157), none⟩])))
       (.ops false [⟨some 116, .mv (.t 13), none⟩, ⟨some 117, .bin .add (.t 116) (.c (.int .i64 1)), none⟩, ⟨some 13, .mv (.t 117), none⟩]))))))

/- noria/noriaref29.Check -/
def d_noriaref29_Check : DFun := ⟨
  .seq (.ops false [⟨some 2, .box (.t 0), none⟩, ⟨some 4, .mv (.c (.int .i64 0)), none⟩, ⟨some 5, .mv (.c (.bool false)), none⟩])
  (.seq (.seq (.ops false [⟨some 14, .load (some 4) (.t 2), none⟩, ⟨some 15, .callP 20 [(.t 14)], none⟩, ⟨some 16, .un .not (.t 15), none⟩, ⟨some 17, .mv (.t 16), none⟩, ⟨some 18, .mv (.t 1), some (17, false)⟩, ⟨some 19, .len (.t 18), some (17, false)⟩, ⟨some 20, .bin .lss (.t 19) (.c (.int .i64 1)), some (17, false)⟩, ⟨some 21, .pick (.t 17) (.c (.bool true)) (.t 20), none⟩, ⟨some 22, .mv (.t 21), none⟩, ⟨some 23, .mv (.t 1), some (22, false)⟩, ⟨some 24, .len (.t 23), some (22, false)⟩, ⟨some 25, .bin .gtr (.t 24) (.c (.int .i64 6000)), some (22, false)⟩, ⟨some 26, .pick (.t 22) (.c (.bool true)) (.t 25), none⟩])
  (.cond (.t 26) (.seq (.ops false [⟨some 4, .mv (.c (.int .i64 0)), none⟩, ⟨some 5, .mv (.c (.bool false)), none⟩])
   (.ret))
   (.skip)))
  (.seq (.ops false [⟨some 27, .mv (.t 1), none⟩, ⟨some 28, .len (.t 27), none⟩, ⟨some 29, .make [.bool false] (.t 28) (.t 28), none⟩, ⟨some 6, .mv (.t 29), none⟩])
  (.seq (.ops false [⟨some 30, .mv (.t 1), none⟩, ⟨some 31, .len (.t 30), none⟩, ⟨some 32, .make [.nil] (.t 31) (.t 31), none⟩, ⟨some 7, .mv (.t 32), none⟩])
  (.seq (.ops false [⟨some 33, .mv (.t 6), none⟩, ⟨some 34, .iaddr 1 (.t 33) (.c (.int .i64 0)), none⟩, ⟨none, .store 1 (.t 34) (.c (.bool true)), none⟩])
  (.seq (.seq (.ops false [⟨some 8, .mv (.c (.int .i64 0)), none⟩])
  (.block 0 (.loop [1, 2, 6, 7, 8] (some 3) (.seq (.seq (.ops false [⟨some 35, .mv (.t 8), none⟩, ⟨some 36, .mv (.t 1), none⟩, ⟨some 37, .len (.t 36), none⟩, ⟨some 38, .bin .lss (.t 35) (.t 37), none⟩])
    (.cond (.t 38) (.skip)
     (.exit 0)))
    (.seq (.block 1 (.seq (.ops false [⟨some 41, .mv (.t 1), none⟩, ⟨some 42, .mv (.t 8), none⟩, ⟨some 43, .iaddr 4 (.t 41) (.t 42), none⟩, ⟨some 44, .load (some 4) (.t 43), none⟩, ⟨some 9, .alloc [.int .i64 0, .int .i64 0, .int .i64 0, .int .i64 0], none⟩, ⟨none, .store 4 (.t 9) (.t 44), none⟩])
     (.seq (.seq (.ops false [⟨some 45, .mv (.t 6), none⟩, ⟨some 46, .mv (.t 8), none⟩, ⟨some 47, .iaddr 1 (.t 45) (.t 46), none⟩, ⟨some 48, .load none (.t 47), none⟩, ⟨some 49, .un .not (.t 48), none⟩, ⟨some 50, .mv (.t 49), none⟩, ⟨some 51, .load (some 4) (.t 9), some (50, false)⟩, ⟨some 52, .callP 17 [(.t 51)], some (50, false)⟩, ⟨some 53, .un .not (.t 52), some (50, false)⟩, ⟨some 54, .pick (.t 50) (.c (.bool true)) (.t 53), none⟩])
     (.cond (.t 54) (.seq (.ops false [⟨some 55, .mv (.t 8), none⟩, ⟨some 4, .mv (.t 55), none⟩, ⟨some 5, .mv (.c (.bool false)), none⟩])
      (.ret))
      (.skip)))
     (.seq (.ops true [⟨some 57, .load (some 4) (.t 2), none⟩, ⟨some 58, .load (some 4) (.t 9), none⟩, ⟨some 59, .mv (.t 7), none⟩, ⟨some 60, .mv (.t 8), none⟩, ⟨some 61, .iaddr 1 (.t 59) (.t 60), none⟩, ⟨some 62, .load none (.t 61), none⟩, ⟨some 63, .callP 22 [(.t 57), (.t 58), (.t 62)], none⟩, ⟨some 56, .mv (.t 63), none⟩, ⟨some 64, .extract 0 (.t 56), none⟩, ⟨some 65, .extract 1 (.t 56), none⟩, ⟨some 10, .mv (.t 64), none⟩, ⟨some 11, .mv (.t 65), none⟩])
     (.seq (.seq (.ops false [⟨some 66, .mv (.t 11), none⟩, ⟨some 67, .un .not (.t 66), none⟩])
     (.cond (.t 67) (.seq (.ops false [⟨some 68, .mv (.t 8), none⟩, ⟨some 4, .mv (.t 68), none⟩, ⟨some 5, .mv (.c (.bool false)), none⟩])
      (.ret))
      (.skip)))
     (.seq (.ops false [⟨some 69, .bslice false [.int .i64 0] [], none⟩, ⟨some 12, .mv (.t 69), none⟩])
     (.seq (.seq (.ops false [⟨some 70, .faddr 0 (.t 9), none⟩, ⟨some 71, .load none (.t 70), none⟩, ⟨some 72, .bin .neq (.t 71) (.c (.int .i64 6)), none⟩, ⟨some 73, .mv (.t 72), none⟩, ⟨some 74, .faddr 0 (.t 9), some (73, true)⟩, ⟨some 75, .load none (.t 74), some (73, true)⟩, ⟨some 76, .bin .neq (.t 75) (.c (.int .i64 10)), some (73, true)⟩, ⟨some 77, .pick (.t 73) (.t 76) (.c (.bool false)), none⟩])
     (.cond (.t 77) (.ops false [⟨some 78, .mv (.t 12), none⟩, ⟨some 79, .mv (.t 8), none⟩, ⟨some 80, .bin .add (.t 79) (.c (.int .i64 1)), none⟩, ⟨some 81, .bslice true [.int .i64 0] [(some (.t 80))], none⟩, ⟨some 82, .append 1 (.t 78) (.t 81), none⟩, ⟨some 12, .mv (.t 82), none⟩])
      (.skip)))
     (.seq (.seq (.ops false [⟨some 83, .faddr 0 (.t 9), none⟩, ⟨some 84, .load none (.t 83), none⟩, ⟨some 85, .bin .eql (.t 84) (.c (.int .i64 6)), none⟩, ⟨some 86, .mv (.t 85), none⟩, ⟨some 87, .faddr 0 (.t 9), some (86, false)⟩, ⟨some 88, .load none (.t 87), some (86, false)⟩, ⟨some 89, .bin .eql (.t 88) (.c (.int .i64 7)), some (86, false)⟩, ⟨some 90, .pick (.t 86) (.c (.bool true)) (.t 89), none⟩])
     (.cond (.t 90) (.seq (.seq (.ops false [⟨some 91, .faddr 1 (.t 9), none⟩, ⟨some 92, .load none (.t 91), none⟩, ⟨some 93, .mv (.t 8), none⟩, ⟨some 94, .bin .leq (.t 92) (.t 93), none⟩])
      (.cond (.t 94) (.seq (.ops false [⟨some 95, .mv (.t 8), none⟩, ⟨some 4, .mv (.t 95), none⟩, ⟨some 5, .mv (.c (.bool false)), none⟩])
       (.ret))
       (.skip)))
      (.ops false [⟨some 96, .mv (.t 12), none⟩, ⟨some 97, .faddr 1 (.t 9), none⟩, ⟨some 98, .load none (.t 97), none⟩, ⟨some 99, .bslice true [.int .i64 0] [(some (.t 98))], none⟩, ⟨some 100, .append 1 (.t 96) (.t 99), none⟩, ⟨some 12, .mv (.t 100), none⟩]))
      (.skip)))
     (.seq (.seq (.ops false [⟨some 101, .faddr 0 (.t 9), none⟩, ⟨some 102, .load none (.t 101), none⟩, ⟨some 103, .bin .eql (.t 102) (.c (.int .i64 10)), none⟩, ⟨some 104, .mv (.t 103), none⟩, ⟨some 105, .mv (.t 8), some (104, true)⟩, ⟨some 106, .bin .add (.t 105) (.c (.int .i64 1)), some (104, true)⟩, ⟨some 107, .mv (.t 1), some (104, true)⟩, ⟨some 108, .len (.t 107), some (104, true)⟩, ⟨some 109, .bin .neq (.t 106) (.t 108), some (104, true)⟩, ⟨some 110, .pick (.t 104) (.t 109) (.c (.bool false)), none⟩])
     (.cond (.t 110) (.seq (.ops false [⟨some 111, .mv (.t 8), none⟩, ⟨some 4, .mv (.t 111), none⟩, ⟨some 5, .mv (.c (.bool false)), none⟩])
      (.ret))
      (.skip)))
     (.cut [1, 2, 6, 7, 8, 10, 12] (some 5) c_noriaref29_Check_1))))))))))
    (.ops false [⟨some 39, .mv (.t 8), none⟩, ⟨some 40, .bin .add (.t 39) (.c (.int .i64 1)), none⟩, ⟨some 8, .mv (.t 40), none⟩]))))))
  (.seq (.ops false [⟨some 160, .mv (.t 1), none⟩, ⟨some 161, .len (.t 160), none⟩, ⟨some 4, .mv (.t 161), none⟩, ⟨some 5, .mv (.c (.bool true)), none⟩])
  (.ret))))))),
  [.t 4, .t 5]⟩

/- slices.Clone[[]int64,int64] -/
def d_slices_Clone_int64_int64 : DFun := ⟨
  .seq (.ops false [⟨some 2, .mv (.c (.nil)), none⟩])
  (.seq (.seq (.ops false [⟨some 3, .mv (.t 0), none⟩, ⟨some 4, .snil false (.t 3), none⟩])
  (.cond (.t 4) (.seq (.ops false [⟨some 2, .mkown 1 (.c (.nil)), none⟩])
   (.ret))
   (.skip)))
  (.seq (.ops false [⟨some 5, .bslice false [.int .i64 0] [], none⟩, ⟨some 6, .mv (.t 0), none⟩, ⟨some 7, .append 1 (.t 5) (.t 6), none⟩, ⟨some 2, .mv (.t 7), none⟩])
  (.ret))),
  [.t 2]⟩

/- (*noria/vm.machine).run -/
def d_vm_machine_run : DFun := ⟨
  .seq (.ops false [⟨some 6, .mv (.c (.int .i64 0)), none⟩])
  (.scope (.seq (.ops false [⟨some 7, .mv (.c (.int .i64 0)), none⟩])
  (.seq (.skip)
  (.seq (.block 0 (.loop [0, 1, 2] none (.block 1 (.seq (.seq (.ops false [⟨some 9, .mv (.t 0), none⟩, ⟨some 10, .nilck (.t 9), none⟩, ⟨some 11, .faddr 18 (.t 10), none⟩, ⟨some 12, .load none (.t 11), none⟩, ⟨some 13, .mv (.t 1), none⟩, ⟨some 14, .len (.t 13), none⟩, ⟨some 15, .bin .geq (.t 12) (.t 14), none⟩])
     (.cond (.t 15) (.seq (.ops false [⟨some 6, .mv (.c (.int .i64 13)), none⟩])
      (.ret))
      (.skip)))
     (.seq (.seq (.ops false [⟨some 16, .mv (.t 0), none⟩, ⟨some 17, .nilck (.t 16), none⟩, ⟨some 18, .faddr 19 (.t 17), none⟩, ⟨some 19, .load none (.t 18), none⟩, ⟨some 20, .mv (.t 2), none⟩, ⟨some 21, .bin .geq (.t 19) (.t 20), none⟩])
     (.cond (.t 21) (.seq (.ops false [⟨some 6, .mv (.c (.int .i64 17)), none⟩])
      (.ret))
      (.skip)))
     (.seq (.ops false [⟨some 22, .mv (.t 1), none⟩, ⟨some 23, .mv (.t 0), none⟩, ⟨some 24, .nilck (.t 23), none⟩, ⟨some 25, .faddr 18 (.t 24), none⟩, ⟨some 26, .load none (.t 25), none⟩, ⟨some 27, .iaddr 4 (.t 22) (.t 26), none⟩, ⟨some 28, .load (some 4) (.t 27), none⟩, ⟨some 8, .alloc [.int .i64 0, .int .i64 0, .int .i64 0, .int .i64 0], none⟩, ⟨none, .store 4 (.t 8) (.t 28), none⟩])
     (.seq (.ops false [⟨some 29, .mv (.t 0), none⟩, ⟨some 30, .nilck (.t 29), none⟩, ⟨some 31, .faddr 19 (.t 30), none⟩, ⟨some 32, .load none (.t 31), none⟩, ⟨some 33, .bin .add (.t 32) (.c (.int .i64 1)), none⟩, ⟨some 34, .nilck (.t 29), none⟩, ⟨some 35, .faddr 19 (.t 34), none⟩, ⟨none, .store 1 (.t 35) (.t 33), none⟩])
     (.seq (.ops false [⟨some 36, .mv (.t 0), none⟩, ⟨some 37, .load (some 4) (.t 8), none⟩, ⟨some 38, .callH 24 [(.t 36), (.t 37)], none⟩, ⟨some 7, .mv (.t 38), none⟩])
     (.seq (.ops false [⟨some 39, .mv (.t 7), none⟩, ⟨some 40, .bin .neq (.t 39) (.c (.int .i64 0)), none⟩, ⟨some 41, .mv (.t 40), none⟩, ⟨some 42, .faddr 0 (.t 8), some (41, false)⟩, ⟨some 43, .load none (.t 42), some (41, false)⟩, ⟨some 44, .bin .eql (.t 43) (.c (.int .i64 10)), some (41, false)⟩, ⟨some 45, .pick (.t 41) (.c (.bool true)) (.t 44), none⟩])
     (.cond (.t 45) (.exit 0)
      (.skip)))))))))))
  (.seq (.ops false [⟨some 46, .mv (.t 7), none⟩, ⟨some 6, .mv (.t 46), none⟩])
  (.ret)))))),
  [.t 6]⟩

/- noria/noriaref28.Right -/
def d_noriaref28_Right : DFun := ⟨
  .seq (.ops false [⟨some 1, .box (.t 0), none⟩, ⟨some 2, .mv (.c (.bool false)), none⟩])
  (.seq (.seq (.ops false [⟨some 3, .faddr 0 (.t 1), none⟩, ⟨some 4, .load none (.t 3), none⟩, ⟨some 5, .bin .neq (.t 4) (.c (.int .i64 1)), none⟩, ⟨some 6, .mv (.t 5), none⟩, ⟨some 7, .faddr 3 (.t 1), some (6, true)⟩, ⟨some 8, .load none (.t 7), some (6, true)⟩, ⟨some 9, .bin .neq (.t 8) (.c (.int .i64 0)), some (6, true)⟩, ⟨some 10, .pick (.t 6) (.t 9) (.c (.bool false)), none⟩, ⟨some 11, .mv (.t 10), none⟩, ⟨some 12, .faddr 0 (.t 1), some (11, false)⟩, ⟨some 13, .load none (.t 12), some (11, false)⟩, ⟨some 14, .bin .neq (.t 13) (.c (.int .i64 8)), some (11, false)⟩, ⟨some 15, .mv (.t 14), some (11, false)⟩, ⟨some 16, .faddr 0 (.t 1), some (15, true)⟩, ⟨some 17, .load none (.t 16), some (15, true)⟩, ⟨some 18, .bin .neq (.t 17) (.c (.int .i64 9)), some (15, true)⟩, ⟨some 19, .pick (.t 15) (.t 18) (.c (.bool false)), some (11, false)⟩, ⟨some 20, .mv (.t 19), some (11, false)⟩, ⟨some 21, .faddr 2 (.t 1), some (20, true)⟩, ⟨some 22, .load none (.t 21), some (20, true)⟩, ⟨some 23, .bin .neq (.t 22) (.c (.int .i64 0)), some (20, true)⟩, ⟨some 24, .pick (.t 20) (.t 23) (.c (.bool false)), some (11, false)⟩, ⟨some 25, .pick (.t 11) (.c (.bool true)) (.t 24), none⟩])
  (.cond (.t 25) (.seq (.ops false [⟨some 2, .mv (.c (.bool false)), none⟩])
   (.ret))
   (.skip)))
  (.seq (.seq (.ops false [⟨some 26, .faddr 0 (.t 1), none⟩, ⟨some 27, .load none (.t 26), none⟩])
  (.block 0 (.seq (.ops false [⟨some 29, .bin .eql (.t 27) (.c (.int .i64 1)), none⟩, ⟨some 28, .mv (.t 29), none⟩])
   (.cond (.t 28) (.seq (.ops false [⟨some 30, .faddr 1 (.t 1), none⟩, ⟨some 31, .load none (.t 30), none⟩, ⟨some 32, .bin .geq (.t 31) (.c (.int .i64 1)), none⟩, ⟨some 33, .mv (.t 32), none⟩, ⟨some 34, .faddr 1 (.t 1), some (33, true)⟩, ⟨some 35, .load none (.t 34), some (33, true)⟩, ⟨some 36, .bin .leq (.t 35) (.c (.int .i64 1000)), some (33, true)⟩, ⟨some 37, .pick (.t 33) (.t 36) (.c (.bool false)), none⟩, ⟨some 2, .mv (.t 37), none⟩])
    (.ret))
    (.seq (.seq (.ops false [⟨some 39, .bin .eql (.t 27) (.c (.int .i64 2)), none⟩, ⟨some 38, .mv (.t 39), none⟩])
    (.cond (.t 38) (.skip)
     (.seq (.ops false [⟨some 40, .bin .eql (.t 27) (.c (.int .i64 3)), none⟩, ⟨some 38, .mv (.t 40), none⟩])
     (.cond (.t 38) (.skip)
      (.seq (.ops false [⟨some 41, .bin .eql (.t 27) (.c (.int .i64 6)), none⟩, ⟨some 38, .mv (.t 41), none⟩])
      (.cond (.t 38) (.skip)
       (.ops false [⟨some 42, .bin .eql (.t 27) (.c (.int .i64 7)), none⟩, ⟨some 38, .mv (.t 42), none⟩])))))))
    (.cond (.t 38) (.seq (.ops false [⟨some 43, .faddr 1 (.t 1), none⟩, ⟨some 44, .load none (.t 43), none⟩, ⟨some 45, .callP 25 [(.t 44)], none⟩, ⟨some 2, .mv (.t 45), none⟩])
     (.ret))
     (.seq (.ops false [⟨some 47, .bin .eql (.t 27) (.c (.int .i64 4)), none⟩, ⟨some 46, .mv (.t 47), none⟩])
     (.cond (.t 46) (.seq (.ops false [⟨some 48, .faddr 1 (.t 1), none⟩, ⟨some 49, .load none (.t 48), none⟩, ⟨some 50, .bin .eql (.t 49) (.c (.int .i64 1)), none⟩, ⟨some 51, .mv (.t 50), none⟩, ⟨some 52, .faddr 1 (.t 1), some (51, false)⟩, ⟨some 53, .load none (.t 52), some (51, false)⟩, ⟨some 54, .bin .eql (.t 53) (.c (.int .i64 2)), some (51, false)⟩, ⟨some 55, .pick (.t 51) (.c (.bool true)) (.t 54), none⟩, ⟨some 2, .mv (.t 55), none⟩])
      (.ret))
      (.seq (.ops false [⟨some 57, .bin .eql (.t 27) (.c (.int .i64 5)), none⟩, ⟨some 56, .mv (.t 57), none⟩])
      (.cond (.t 56) (.seq (.ops false [⟨some 58, .faddr 1 (.t 1), none⟩, ⟨some 59, .load none (.t 58), none⟩, ⟨some 60, .bin .geq (.t 59) (.c (.int .i64 3)), none⟩, ⟨some 61, .mv (.t 60), none⟩, ⟨some 62, .faddr 1 (.t 1), some (61, true)⟩, ⟨some 63, .load none (.t 62), some (61, true)⟩, ⟨some 64, .bin .leq (.t 63) (.c (.int .i64 16)), some (61, true)⟩, ⟨some 65, .pick (.t 61) (.t 64) (.c (.bool false)), none⟩, ⟨some 2, .mv (.t 65), none⟩])
       (.ret))
       (.seq (.seq (.ops false [⟨some 67, .bin .eql (.t 27) (.c (.int .i64 8)), none⟩, ⟨some 66, .mv (.t 67), none⟩])
       (.cond (.t 66) (.skip)
        (.ops false [⟨some 68, .bin .eql (.t 27) (.c (.int .i64 9)), none⟩, ⟨some 66, .mv (.t 68), none⟩])))
       (.cond (.t 66) (.seq (.ops false [⟨some 69, .faddr 1 (.t 1), none⟩, ⟨some 70, .load none (.t 69), none⟩, ⟨some 71, .callP 25 [(.t 70)], none⟩, ⟨some 72, .mv (.t 71), none⟩, ⟨some 73, .faddr 2 (.t 1), some (72, true)⟩, ⟨some 74, .load none (.t 73), some (72, true)⟩, ⟨some 75, .bin .geq (.t 74) (.c (.int .i64 1)), some (72, true)⟩, ⟨some 76, .pick (.t 72) (.t 75) (.c (.bool false)), none⟩, ⟨some 77, .mv (.t 76), none⟩, ⟨some 78, .faddr 2 (.t 1), some (77, true)⟩, ⟨some 79, .load none (.t 78), some (77, true)⟩, ⟨some 80, .bin .leq (.t 79) (.c (.int .i64 8)), some (77, true)⟩, ⟨some 81, .pick (.t 77) (.t 80) (.c (.bool false)), none⟩, ⟨some 2, .mv (.t 81), none⟩])
        (.ret))
        (.seq (.ops false [⟨some 83, .bin .eql (.t 27) (.c (.int .i64 10)), none⟩, ⟨some 82, .mv (.t 83), none⟩])
        (.cond (.t 82) (.seq (.ops false [⟨some 84, .faddr 1 (.t 1), none⟩, ⟨some 85, .load none (.t 84), none⟩, ⟨some 86, .bin .eql (.t 85) (.c (.int .i64 0)), none⟩, ⟨some 2, .mv (.t 86), none⟩])
         (.ret))
         (.skip)))))))))))))))
  (.seq (.ops false [⟨some 2, .mv (.c (.bool false)), none⟩])
  (.ret)))),
  [.t 2]⟩

/- (*noria/noriaref30.R).do -/
def d_noriaref30_R_do : DFun := ⟨
  .seq (.ops false [⟨some 3, .box (.t 1), none⟩])
  (.seq (.ops false [⟨some 8, .mv (.t 0), none⟩, ⟨some 9, .nilck (.t 8), none⟩, ⟨some 10, .faddr 2 (.t 9), none⟩, ⟨some 11, .load none (.t 10), none⟩, ⟨some 12, .bin .add (.t 11) (.c (.int .i64 1)), none⟩, ⟨some 13, .nilck (.t 8), none⟩, ⟨some 14, .faddr 2 (.t 13), none⟩, ⟨none, .store 1 (.t 14) (.t 12), none⟩])
  (.seq (.ops false [⟨some 15, .faddr 0 (.t 3), none⟩, ⟨some 16, .load none (.t 15), none⟩])
  (.block 0 (.seq (.ops false [⟨some 18, .bin .eql (.t 16) (.c (.int .i64 1)), none⟩, ⟨some 17, .mv (.t 18), none⟩])
   (.cond (.t 17) (.ops false [⟨some 19, .mv (.t 0), none⟩, ⟨some 20, .faddr 3 (.t 3), none⟩, ⟨some 21, .load none (.t 20), none⟩, ⟨some 22, .callH 26 [(.t 19), (.t 21)], none⟩])
    (.seq (.ops false [⟨some 24, .bin .eql (.t 16) (.c (.int .i64 2)), none⟩, ⟨some 23, .mv (.t 24), none⟩])
    (.cond (.t 23) (.seq (.ops false [⟨some 25, .mv (.t 0), none⟩, ⟨some 26, .faddr 1 (.t 3), none⟩, ⟨some 27, .load none (.t 26), none⟩, ⟨some 28, .callH 27 [(.t 25), (.t 27), (.c (.int .i64 1))], none⟩])
     (.cond (.t 28) (.ops true [⟨some 29, .mv (.t 0), none⟩, ⟨some 30, .mv (.t 0), none⟩, ⟨some 31, .nilck (.t 30), none⟩, ⟨some 32, .faddr 0 (.t 31), none⟩, ⟨some 33, .load none (.t 32), none⟩, ⟨some 34, .faddr 1 (.t 3), none⟩, ⟨some 35, .load none (.t 34), none⟩, ⟨some 36, .iaddr 1 (.t 33) (.t 35), none⟩, ⟨some 37, .load none (.t 36), none⟩, ⟨some 38, .callH 26 [(.t 29), (.t 37)], none⟩])
      (.skip)))
     (.seq (.ops false [⟨some 40, .bin .eql (.t 16) (.c (.int .i64 3)), none⟩, ⟨some 39, .mv (.t 40), none⟩])
     (.cond (.t 39) (.seq (.ops false [⟨some 42, .mv (.t 0), none⟩, ⟨some 43, .callH 28 [(.t 42)], none⟩, ⟨some 41, .mv (.t 43), none⟩, ⟨some 44, .extract 0 (.t 41), none⟩, ⟨some 45, .extract 1 (.t 41), none⟩, ⟨some 4, .mv (.t 44), none⟩, ⟨some 5, .mv (.t 45), none⟩])
      (.seq (.ops false [⟨some 46, .mv (.t 5), none⟩, ⟨some 47, .mv (.t 46), none⟩, ⟨some 48, .mv (.t 0), some (47, true)⟩, ⟨some 49, .faddr 1 (.t 3), some (47, true)⟩, ⟨some 50, .load none (.t 49), some (47, true)⟩, ⟨some 51, .callH 27 [(.t 48), (.t 50), (.c (.int .i64 1))], some (47, true)⟩, ⟨some 52, .pick (.t 47) (.t 51) (.c (.bool false)), none⟩])
      (.cond (.t 52) (.ops true [⟨some 53, .mv (.t 0), none⟩, ⟨some 54, .nilck (.t 53), none⟩, ⟨some 55, .faddr 0 (.t 54), none⟩, ⟨some 56, .load none (.t 55), none⟩, ⟨some 57, .faddr 1 (.t 3), none⟩, ⟨some 58, .load none (.t 57), none⟩, ⟨some 59, .mv (.t 4), none⟩, ⟨some 60, .iaddr 1 (.t 56) (.t 58), none⟩, ⟨none, .store 1 (.t 60) (.t 59), none⟩])
       (.skip))))
      (.seq (.seq (.ops false [⟨some 62, .bin .eql (.t 16) (.c (.int .i64 4)), none⟩, ⟨some 61, .mv (.t 62), none⟩])
      (.cond (.t 61) (.skip)
       (.ops false [⟨some 63, .bin .eql (.t 16) (.c (.int .i64 5)), none⟩, ⟨some 61, .mv (.t 63), none⟩])))
      (.cond (.t 61) (.ops false [⟨some 64, .mv (.t 0), none⟩, ⟨some 65, .load (some 4) (.t 3), none⟩, ⟨some 66, .callH 29 [(.t 64), (.t 65)], none⟩])
       (.seq (.ops false [⟨some 68, .bin .eql (.t 16) (.c (.int .i64 6)), none⟩, ⟨some 67, .mv (.t 68), none⟩])
       (.cond (.t 67) (.ops false [⟨some 69, .mv (.t 0), none⟩, ⟨some 70, .faddr 1 (.t 3), none⟩, ⟨some 71, .load none (.t 70), none⟩, ⟨some 72, .nilck (.t 69), none⟩, ⟨some 73, .faddr 2 (.t 72), none⟩, ⟨none, .store 1 (.t 73) (.t 71), none⟩])
        (.seq (.ops false [⟨some 75, .bin .eql (.t 16) (.c (.int .i64 7)), none⟩, ⟨some 74, .mv (.t 75), none⟩])
        (.cond (.t 74) (.seq (.ops false [⟨some 77, .mv (.t 0), none⟩, ⟨some 78, .callH 28 [(.t 77)], none⟩, ⟨some 76, .mv (.t 78), none⟩, ⟨some 79, .extract 0 (.t 76), none⟩, ⟨some 80, .extract 1 (.t 76), none⟩, ⟨some 6, .mv (.t 79), none⟩, ⟨some 7, .mv (.t 80), none⟩])
         (.seq (.ops false [⟨some 81, .mv (.t 7), none⟩, ⟨some 82, .mv (.t 81), none⟩, ⟨some 83, .mv (.t 6), some (82, true)⟩, ⟨some 84, .bin .eql (.t 83) (.c (.int .i64 0)), some (82, true)⟩, ⟨some 85, .pick (.t 82) (.t 84) (.c (.bool false)), none⟩])
         (.cond (.t 85) (.ops false [⟨some 86, .mv (.t 0), none⟩, ⟨some 87, .faddr 1 (.t 3), none⟩, ⟨some 88, .load none (.t 87), none⟩, ⟨some 89, .nilck (.t 86), none⟩, ⟨some 90, .faddr 2 (.t 89), none⟩, ⟨none, .store 1 (.t 90) (.t 88), none⟩])
          (.skip))))
         (.seq (.seq (.ops false [⟨some 92, .bin .eql (.t 16) (.c (.int .i64 8)), none⟩, ⟨some 91, .mv (.t 92), none⟩])
         (.cond (.t 91) (.skip)
          (.ops false [⟨some 93, .bin .eql (.t 16) (.c (.int .i64 9)), none⟩, ⟨some 91, .mv (.t 93), none⟩])))
         (.cond (.t 91) (.ops false [⟨some 94, .mv (.t 0), none⟩, ⟨some 95, .load (some 4) (.t 3), none⟩, ⟨some 96, .callH 30 [(.t 94), (.t 95)], none⟩])
          (.seq (.ops false [⟨some 98, .bin .eql (.t 16) (.c (.int .i64 10)), none⟩, ⟨some 97, .mv (.t 98), none⟩])
          (.cond (.t 97) (.ops false [⟨some 99, .mv (.t 0), none⟩, ⟨some 100, .nilck (.t 99), none⟩, ⟨some 101, .faddr 3 (.t 100), none⟩, ⟨none, .store 1 (.t 101) (.c (.int .i64 (-1))), none⟩])
           (.skip)))))))))))))))))))),
  []⟩

/- noria/verify.Shape -/
def d_verify_Shape : DFun := ⟨
  .seq (.ops false [⟨some 1, .box (.t 0), none⟩, ⟨some 2, .mv (.c (.bool false)), none⟩])
  (.seq (.ops false [⟨some 5, .load (some 4) (.t 1), none⟩, ⟨some 6, .build [.nil, .nil, .int .i64 0, .int .i64 0] [(0, 4, (.t 5))], none⟩, ⟨some 3, .alloc [.nil, .nil, .int .i64 0, .int .i64 0], none⟩, ⟨none, .store 4 (.t 3) (.t 6), none⟩])
  (.seq (.seq (.ops false [⟨some 7, .faddr 0 (.t 3), none⟩, ⟨some 8, .faddr 0 (.t 7), none⟩, ⟨some 9, .load none (.t 8), none⟩, ⟨some 10, .len (.t 9), none⟩, ⟨some 11, .bin .gtr (.t 10) (.c (.int .i64 4)), none⟩, ⟨some 12, .mv (.t 11), none⟩, ⟨some 13, .faddr 0 (.t 3), some (12, false)⟩, ⟨some 14, .faddr 1 (.t 13), some (12, false)⟩, ⟨some 15, .load none (.t 14), some (12, false)⟩, ⟨some 16, .len (.t 15), some (12, false)⟩, ⟨some 17, .bin .gtr (.t 16) (.c (.int .i64 1000)), some (12, false)⟩, ⟨some 18, .pick (.t 12) (.c (.bool true)) (.t 17), none⟩, ⟨some 19, .mv (.t 18), none⟩, ⟨some 20, .faddr 0 (.t 3), some (19, false)⟩, ⟨some 21, .faddr 2 (.t 20), some (19, false)⟩, ⟨some 22, .load none (.t 21), some (19, false)⟩, ⟨some 23, .bin .lss (.t 22) (.c (.int .i64 0)), some (19, false)⟩, ⟨some 24, .pick (.t 19) (.c (.bool true)) (.t 23), none⟩, ⟨some 25, .mv (.t 24), none⟩, ⟨some 26, .faddr 0 (.t 3), some (25, false)⟩, ⟨some 27, .faddr 2 (.t 26), some (25, false)⟩, ⟨some 28, .load none (.t 27), some (25, false)⟩, ⟨some 29, .faddr 0 (.t 3), some (25, false)⟩, ⟨some 30, .faddr 3 (.t 29), some (25, false)⟩, ⟨some 31, .load none (.t 30), some (25, false)⟩, ⟨some 32, .bin .gtr (.t 28) (.t 31), some (25, false)⟩, ⟨some 33, .pick (.t 25) (.c (.bool true)) (.t 32), none⟩, ⟨some 34, .mv (.t 33), none⟩, ⟨some 35, .faddr 0 (.t 3), some (34, false)⟩, ⟨some 36, .faddr 3 (.t 35), some (34, false)⟩, ⟨some 37, .load none (.t 36), some (34, false)⟩, ⟨some 38, .faddr 0 (.t 3), some (34, false)⟩, ⟨some 39, .faddr 1 (.t 38), some (34, false)⟩, ⟨some 40, .load none (.t 39), some (34, false)⟩, ⟨some 41, .len (.t 40), some (34, false)⟩, ⟨some 42, .bin .gtr (.t 37) (.t 41), some (34, false)⟩, ⟨some 43, .pick (.t 34) (.c (.bool true)) (.t 42), none⟩])
  (.cond (.t 43) (.seq (.ops false [⟨some 2, .mv (.c (.bool false)), none⟩])
   (.ret))
   (.skip)))
  (.seq (.ops false [⟨some 44, .faddr 0 (.t 3), none⟩, ⟨some 45, .faddr 0 (.t 44), none⟩, ⟨some 46, .load none (.t 45), none⟩, ⟨some 47, .callP 31 [(.t 46), (.c (.clo 32 []))], none⟩, ⟨some 4, .mv (.t 47), none⟩])
  (.seq (.ops false [⟨some 48, .mv (.t 4), none⟩, ⟨some 49, .un .not (.t 48), none⟩, ⟨some 50, .mv (.t 49), none⟩, ⟨some 51, .faddr 0 (.t 3), some (50, true)⟩, ⟨some 52, .faddr 1 (.t 51), some (50, true)⟩, ⟨some 53, .load none (.t 52), some (50, true)⟩, ⟨some 54, .mkfun 33 [(.t 3)], some (50, true)⟩, ⟨some 55, .callP 31 [(.t 53), (.t 54)], some (50, true)⟩, ⟨some 56, .un .not (.t 55), some (50, true)⟩, ⟨some 57, .pick (.t 50) (.t 56) (.c (.bool false)), none⟩, ⟨some 2, .mv (.t 57), none⟩])
  (.ret))))),
  [.t 2]⟩

/- noria/noriaref29.Shape -/
def d_noriaref29_Shape : DFun := ⟨
  .seq (.ops false [⟨some 1, .box (.t 0), none⟩, ⟨some 2, .mv (.c (.bool false)), none⟩])
  (.seq (.seq (.ops false [⟨some 5, .faddr 0 (.t 1), none⟩, ⟨some 6, .load none (.t 5), none⟩, ⟨some 7, .len (.t 6), none⟩, ⟨some 8, .bin .gtr (.t 7) (.c (.int .i64 4)), none⟩, ⟨some 9, .mv (.t 8), none⟩, ⟨some 10, .faddr 1 (.t 1), some (9, false)⟩, ⟨some 11, .load none (.t 10), some (9, false)⟩, ⟨some 12, .len (.t 11), some (9, false)⟩, ⟨some 13, .bin .gtr (.t 12) (.c (.int .i64 1000)), some (9, false)⟩, ⟨some 14, .pick (.t 9) (.c (.bool true)) (.t 13), none⟩, ⟨some 15, .mv (.t 14), none⟩, ⟨some 16, .faddr 2 (.t 1), some (15, false)⟩, ⟨some 17, .load none (.t 16), some (15, false)⟩, ⟨some 18, .bin .lss (.t 17) (.c (.int .i64 0)), some (15, false)⟩, ⟨some 19, .pick (.t 15) (.c (.bool true)) (.t 18), none⟩, ⟨some 20, .mv (.t 19), none⟩, ⟨some 21, .faddr 3 (.t 1), some (20, false)⟩, ⟨some 22, .load none (.t 21), some (20, false)⟩, ⟨some 23, .faddr 1 (.t 1), some (20, false)⟩, ⟨some 24, .load none (.t 23), some (20, false)⟩, ⟨some 25, .len (.t 24), some (20, false)⟩, ⟨some 26, .bin .gtr (.t 22) (.t 25), some (20, false)⟩, ⟨some 27, .pick (.t 20) (.c (.bool true)) (.t 26), none⟩, ⟨some 28, .mv (.t 27), none⟩, ⟨some 29, .faddr 2 (.t 1), some (28, false)⟩, ⟨some 30, .load none (.t 29), some (28, false)⟩, ⟨some 31, .faddr 3 (.t 1), some (28, false)⟩, ⟨some 32, .load none (.t 31), some (28, false)⟩, ⟨some 33, .bin .gtr (.t 30) (.t 32), some (28, false)⟩, ⟨some 34, .pick (.t 28) (.c (.bool true)) (.t 33), none⟩])
  (.cond (.t 34) (.seq (.ops false [⟨some 2, .mv (.c (.bool false)), none⟩])
   (.ret))
   (.skip)))
  (.seq (.seq (.ops false [⟨some 3, .mv (.c (.int .i64 0)), none⟩])
  (.block 0 (.loop [1, 3] (some 1) (.seq (.seq (.ops false [⟨some 35, .mv (.t 3), none⟩, ⟨some 36, .faddr 0 (.t 1), none⟩, ⟨some 37, .load none (.t 36), none⟩, ⟨some 38, .len (.t 37), none⟩, ⟨some 39, .bin .lss (.t 35) (.t 38), none⟩])
    (.cond (.t 39) (.skip)
     (.exit 0)))
    (.seq (.block 1 (.seq (.ops false [⟨some 42, .faddr 0 (.t 1), none⟩, ⟨some 43, .load none (.t 42), none⟩, ⟨some 44, .mv (.t 3), none⟩, ⟨some 45, .iaddr 1 (.t 43) (.t 44), none⟩, ⟨some 46, .load none (.t 45), none⟩, ⟨some 47, .bin .lss (.t 46) (.c (.int .i64 1)), none⟩])
     (.cond (.t 47) (.seq (.ops false [⟨some 2, .mv (.c (.bool false)), none⟩])
      (.ret))
      (.skip))))
    (.ops false [⟨some 40, .mv (.t 3), none⟩, ⟨some 41, .bin .add (.t 40) (.c (.int .i64 1)), none⟩, ⟨some 3, .mv (.t 41), none⟩]))))))
  (.seq (.seq (.ops false [⟨some 4, .mv (.c (.int .i64 0)), none⟩])
  (.block 2 (.loop [1, 4] (some 1) (.seq (.seq (.ops false [⟨some 48, .mv (.t 4), none⟩, ⟨some 49, .faddr 1 (.t 1), none⟩, ⟨some 50, .load none (.t 49), none⟩, ⟨some 51, .len (.t 50), none⟩, ⟨some 52, .bin .lss (.t 48) (.t 51), none⟩])
    (.cond (.t 52) (.skip)
     (.exit 2)))
    (.seq (.block 3 (.seq (.ops true [⟨some 55, .load (some 4) (.t 1), none⟩, ⟨some 56, .faddr 1 (.t 1), none⟩, ⟨some 57, .load none (.t 56), none⟩, ⟨some 58, .mv (.t 4), none⟩, ⟨some 59, .iaddr 1 (.t 57) (.t 58), none⟩, ⟨some 60, .load none (.t 59), none⟩, ⟨some 61, .callP 35 [(.t 55), (.t 60)], none⟩, ⟨some 62, .un .not (.t 61), none⟩])
     (.cond (.t 62) (.seq (.ops false [⟨some 2, .mv (.c (.bool false)), none⟩])
      (.ret))
      (.skip))))
    (.ops false [⟨some 53, .mv (.t 4), none⟩, ⟨some 54, .bin .add (.t 53) (.c (.int .i64 1)), none⟩, ⟨some 4, .mv (.t 54), none⟩]))))))
  (.seq (.ops false [⟨some 2, .mv (.c (.bool true)), none⟩])
  (.ret))))),
  [.t 2]⟩

/- noria/noriaref29.Value -/
def d_noriaref29_Value : DFun := ⟨
  .seq (.ops false [⟨some 3, .box (.t 0), none⟩, ⟨some 6, .mv (.c (.bool false)), none⟩])
  (.seq (.seq (.ops false [⟨some 7, .mv (.t 1), none⟩, ⟨some 8, .bin .eql (.t 7) (.c (.int .i64 2)), none⟩])
  (.cond (.t 8) (.seq (.ops false [⟨some 9, .mv (.t 2), none⟩, ⟨some 10, .bin .eql (.t 9) (.c (.int .i64 0)), none⟩, ⟨some 11, .mv (.t 10), none⟩, ⟨some 12, .mv (.t 2), some (11, false)⟩, ⟨some 13, .bin .eql (.t 12) (.c (.int .i64 1)), some (11, false)⟩, ⟨some 14, .pick (.t 11) (.c (.bool true)) (.t 13), none⟩, ⟨some 6, .mv (.t 14), none⟩])
   (.ret))
   (.skip)))
  (.seq (.ops false [⟨some 15, .mv (.t 1), none⟩, ⟨some 16, .bin .eql (.t 15) (.c (.int .i64 1)), none⟩, ⟨some 17, .mv (.t 16), none⟩, ⟨some 18, .mv (.t 2), some (17, false)⟩, ⟨some 19, .bin .geq (.t 18) (.c (.int .i64 0)), some (17, false)⟩, ⟨some 20, .mv (.t 19), some (17, false)⟩, ⟨some 21, .mv (.t 2), some (20, true)⟩, ⟨some 22, .faddr 0 (.t 3), some (20, true)⟩, ⟨some 23, .load none (.t 22), some (20, true)⟩, ⟨some 24, .mv (.t 1), some (20, true)⟩, ⟨some 25, .bin .sub (.t 24) (.c (.int .i64 3)), some (20, true)⟩, ⟨some 26, .iaddr 1 (.t 23) (.t 25), some (20, true)⟩, ⟨some 27, .load none (.t 26), some (20, true)⟩, ⟨some 28, .bin .lss (.t 21) (.t 27), some (20, true)⟩, ⟨some 29, .pick (.t 20) (.t 28) (.c (.bool false)), some (17, false)⟩, ⟨some 30, .pick (.t 17) (.c (.bool true)) (.t 29), none⟩, ⟨some 6, .mv (.t 30), none⟩])
  (.ret))),
  [.t 6]⟩

/- noria/noriaref29.Next -/
def d_noriaref29_Next : DFun := ⟨
  .seq (.ops false [⟨some 3, .box (.t 0), none⟩, ⟨some 4, .box (.t 1), none⟩, ⟨some 6, .mv (.c (.nil)), none⟩, ⟨some 7, .mv (.c (.bool false)), none⟩])
  (.seq (.seq (.ops false [⟨some 12, .faddr 0 (.t 4), none⟩, ⟨some 13, .load none (.t 12), none⟩])
  (.block 0 (.seq (.ops false [⟨some 15, .bin .eql (.t 13) (.c (.int .i64 1)), none⟩, ⟨some 14, .mv (.t 15), none⟩])
   (.cond (.t 14) (.seq (.opsP [(0, ⟨some 16, .mv (.t 2), none⟩), (1, ⟨some 17, .faddr 1 (.t 4), none⟩), (2, ⟨some 18, .load none (.t 17), none⟩), (4, ⟨some 20, .load (some 4) (.t 3), none⟩), (5, ⟨some 21, .faddr 1 (.t 4), none⟩), (6, ⟨some 22, .load none (.t 21), none⟩), (3, ⟨some 19, .callP 36 [(.t 16), (.c (.int .i64 0)), (.t 18)], none⟩), (7, ⟨some 23, .callP 35 [(.t 20), (.t 22)], none⟩), (8, ⟨some 24, .mv (.t 23), none⟩), (9, ⟨some 25, .load (some 4) (.t 3), some (24, true)⟩), (10, ⟨some 26, .faddr 1 (.t 4), some (24, true)⟩), (11, ⟨some 27, .load none (.t 26), some (24, true)⟩), (12, ⟨some 28, .faddr 3 (.t 4), some (24, true)⟩), (13, ⟨some 29, .load none (.t 28), some (24, true)⟩), (14, ⟨some 30, .callP 21 [(.t 25), (.t 27), (.t 29)], some (24, true)⟩), (15, ⟨some 31, .pick (.t 24) (.t 30) (.c (.bool false)), none⟩), (16, ⟨some 32, .mv (.t 31), none⟩), (17, ⟨some 33, .mv (.t 2), some (32, true)⟩), (18, ⟨some 34, .len (.t 33), some (32, true)⟩), (19, ⟨some 35, .bin .lss (.t 34) (.c (.int .i64 16)), some (32, true)⟩), (20, ⟨some 36, .pick (.t 32) (.t 35) (.c (.bool false)), none⟩), (21, ⟨some 6, .mv (.t 19), none⟩), (22, ⟨some 7, .mv (.t 36), none⟩)])
    (.ret))
    (.seq (.ops false [⟨some 38, .bin .eql (.t 13) (.c (.int .i64 4)), none⟩, ⟨some 37, .mv (.t 38), none⟩])
    (.cond (.t 37) (.seq (.opsS [] [(0, ⟨some 40, .faddr 1 (.t 4), none⟩), (1, ⟨some 41, .load none (.t 40), none⟩), (2, ⟨some 42, .mv (.t 2), none⟩), (3, ⟨some 43, .rd (.callP 39 [(.t 42), (.c (.int .i64 0))]), none⟩), (4, ⟨some 44, .rd (.callP 38 [(.t 43)]), none⟩), (5, ⟨some 45, .rd (.callP 37 [(.t 41), (.t 44)]), none⟩), (6, ⟨some 39, .mv (.t 45), none⟩), (7, ⟨some 46, .extract 0 (.t 39), none⟩), (8, ⟨some 47, .extract 1 (.t 39), none⟩), (9, ⟨some 8, .alloc [.int .i64 0, .int .i64 0, .int .i64 0], none⟩), (10, ⟨none, .store 3 (.t 8) (.t 46), none⟩), (11, ⟨some 9, .mv (.t 47), none⟩)])
     (.seq (.seq (.ops false [⟨some 48, .mv (.t 9), none⟩, ⟨some 49, .un .not (.t 48), none⟩])
     (.cond (.t 49) (.seq (.ops false [⟨some 6, .mv (.c (.nil)), none⟩, ⟨some 7, .mv (.c (.bool false)), none⟩])
      (.ret))
      (.skip)))
     (.seq (.ops false [⟨some 50, .mv (.t 2), none⟩, ⟨some 51, .load (some 3) (.t 8), none⟩, ⟨some 52, .callP 40 [(.t 51)], none⟩, ⟨some 53, .callP 36 [(.t 50), (.c (.int .i64 1)), (.t 52)], none⟩, ⟨some 6, .mv (.t 53), none⟩, ⟨some 7, .mv (.c (.bool true)), none⟩])
     (.ret))))
     (.seq (.ops false [⟨some 55, .bin .eql (.t 13) (.c (.int .i64 5)), none⟩, ⟨some 54, .mv (.t 55), none⟩])
     (.cond (.t 54) (.seq (.seq (.ops false [⟨some 56, .mv (.t 2), none⟩, ⟨some 57, .len (.t 56), none⟩, ⟨some 58, .bin .lss (.t 57) (.c (.int .i64 2)), none⟩])
      (.cond (.t 58) (.seq (.ops false [⟨some 6, .mv (.c (.nil)), none⟩, ⟨some 7, .mv (.c (.bool false)), none⟩])
       (.ret))
       (.skip)))
      (.seq (.opsS [] [(0, ⟨some 60, .faddr 1 (.t 4), none⟩), (1, ⟨some 61, .load none (.t 60), none⟩), (2, ⟨some 62, .mv (.t 2), none⟩), (5, ⟨some 65, .mv (.t 2), none⟩), (3, ⟨some 63, .rd (.callP 39 [(.t 62), (.c (.int .i64 1))]), none⟩), (4, ⟨some 64, .rd (.callP 38 [(.t 63)]), none⟩), (6, ⟨some 66, .rd (.callP 39 [(.t 65), (.c (.int .i64 0))]), none⟩), (7, ⟨some 67, .rd (.callP 38 [(.t 66)]), none⟩), (8, ⟨some 68, .rd (.callP 41 [(.t 61), (.t 64), (.t 67)]), none⟩), (9, ⟨some 59, .mv (.t 68), none⟩), (10, ⟨some 69, .extract 0 (.t 59), none⟩), (11, ⟨some 70, .extract 1 (.t 59), none⟩), (12, ⟨some 10, .alloc [.int .i64 0, .int .i64 0, .int .i64 0], none⟩), (13, ⟨none, .store 3 (.t 10) (.t 69), none⟩), (14, ⟨some 11, .mv (.t 70), none⟩)])
      (.seq (.seq (.ops false [⟨some 71, .mv (.t 11), none⟩, ⟨some 72, .un .not (.t 71), none⟩])
      (.cond (.t 72) (.seq (.ops false [⟨some 6, .mv (.c (.nil)), none⟩, ⟨some 7, .mv (.c (.bool false)), none⟩])
       (.ret))
       (.skip)))
      (.seq (.ops false [⟨some 73, .mv (.t 2), none⟩, ⟨some 74, .load (some 3) (.t 10), none⟩, ⟨some 75, .callP 40 [(.t 74)], none⟩, ⟨some 76, .callP 36 [(.t 73), (.c (.int .i64 2)), (.t 75)], none⟩, ⟨some 6, .mv (.t 76), none⟩, ⟨some 7, .mv (.c (.bool true)), none⟩])
      (.ret)))))
      (.seq (.ops false [⟨some 78, .bin .eql (.t 13) (.c (.int .i64 7)), none⟩, ⟨some 77, .mv (.t 78), none⟩])
      (.cond (.t 77) (.seq (.seq (.ops false [⟨some 79, .mv (.t 2), none⟩, ⟨some 80, .callP 39 [(.t 79), (.c (.int .i64 0))], none⟩, ⟨some 81, .bin .neq (.t 80) (.c (.int .i64 2)), none⟩])
       (.cond (.t 81) (.seq (.ops false [⟨some 6, .mv (.c (.nil)), none⟩, ⟨some 7, .mv (.c (.bool false)), none⟩])
        (.ret))
        (.skip)))
       (.seq (.ops false [⟨some 82, .mv (.t 2), none⟩, ⟨some 83, .callP 36 [(.t 82), (.c (.int .i64 1)), (.c (.int .i64 0))], none⟩, ⟨some 6, .mv (.t 83), none⟩, ⟨some 7, .mv (.c (.bool true)), none⟩])
       (.ret)))
       (.seq (.ops false [⟨some 85, .bin .eql (.t 13) (.c (.int .i64 6)), none⟩, ⟨some 84, .mv (.t 85), none⟩])
       (.cond (.t 84) (.seq (.ops false [⟨some 86, .mv (.t 2), none⟩, ⟨some 6, .mv (.t 86), none⟩, ⟨some 7, .mv (.c (.bool true)), none⟩])
        (.ret))
        (.seq (.ops false [⟨some 88, .bin .eql (.t 13) (.c (.int .i64 10)), none⟩, ⟨some 87, .mv (.t 88), none⟩])
        (.cond (.t 87) (.seq (.ops false [⟨some 89, .mv (.t 2), none⟩, ⟨some 90, .len (.t 89), none⟩, ⟨some 91, .bin .eql (.t 90) (.c (.int .i64 0)), none⟩, ⟨some 6, .mv (.c (.nil)), none⟩, ⟨some 7, .mv (.t 91), none⟩])
         (.ret))
         (.skip)))))))))))))))
  (.seq (.ops false [⟨some 92, .load (some 4) (.t 3), none⟩, ⟨some 93, .load (some 4) (.t 4), none⟩, ⟨some 94, .mv (.t 2), none⟩, ⟨some 95, .callP 42 [(.t 92), (.t 93), (.t 94)], none⟩, ⟨some 96, .extract 0 (.t 95), none⟩, ⟨some 97, .extract 1 (.t 95), none⟩, ⟨some 6, .mv (.t 96), none⟩, ⟨some 7, .mv (.t 97), none⟩])
  (.ret))),
  [.t 6, .t 7]⟩

/- noria/noriaref29.same -/
def d_noriaref29_same : DFun := ⟨
  .seq (.ops false [⟨some 4, .mv (.c (.bool false)), none⟩])
  (.seq (.seq (.ops false [⟨some 6, .mv (.t 0), none⟩, ⟨some 7, .len (.t 6), none⟩, ⟨some 8, .mv (.t 1), none⟩, ⟨some 9, .len (.t 8), none⟩, ⟨some 10, .bin .neq (.t 7) (.t 9), none⟩])
  (.cond (.t 10) (.seq (.ops false [⟨some 4, .mv (.c (.bool false)), none⟩])
   (.ret))
   (.skip)))
  (.seq (.seq (.ops false [⟨some 5, .mv (.c (.int .i64 0)), none⟩])
  (.block 0 (.loop [0, 1, 5] (some 0) (.seq (.seq (.ops false [⟨some 11, .mv (.t 5), none⟩, ⟨some 12, .mv (.t 0), none⟩, ⟨some 13, .len (.t 12), none⟩, ⟨some 14, .bin .lss (.t 11) (.t 13), none⟩])
    (.cond (.t 14) (.skip)
     (.exit 0)))
    (.seq (.block 1 (.seq (.ops true [⟨some 17, .mv (.t 0), none⟩, ⟨some 18, .mv (.t 5), none⟩, ⟨some 19, .iaddr 1 (.t 17) (.t 18), none⟩, ⟨some 20, .load none (.t 19), none⟩, ⟨some 21, .mv (.t 1), none⟩, ⟨some 22, .mv (.t 5), none⟩, ⟨some 23, .iaddr 1 (.t 21) (.t 22), none⟩, ⟨some 24, .load none (.t 23), none⟩, ⟨some 25, .bin .neq (.t 20) (.t 24), none⟩])
     (.cond (.t 25) (.seq (.ops false [⟨some 4, .mv (.c (.bool false)), none⟩])
      (.ret))
      (.skip))))
    (.ops false [⟨some 15, .mv (.t 5), none⟩, ⟨some 16, .bin .add (.t 15) (.c (.int .i64 1)), none⟩, ⟨some 5, .mv (.t 16), none⟩]))))))
  (.seq (.ops false [⟨some 4, .mv (.c (.bool true)), none⟩])
  (.ret)))),
  [.t 4]⟩

/- (*noria/vm.machine).do -/
def d_vm_machine_do : DFun := ⟨
  .seq (.ops false [⟨some 3, .box (.t 1), none⟩, ⟨some 4, .mv (.c (.int .i64 0)), none⟩])
  (.seq (.seq (.ops false [⟨some 5, .load (some 4) (.t 3), none⟩, ⟨some 6, .callP 43 [(.t 5)], none⟩, ⟨some 7, .un .not (.t 6), none⟩])
  (.cond (.t 7) (.seq (.ops false [⟨some 4, .mv (.c (.int .i64 13)), none⟩])
   (.ret))
   (.skip)))
  (.seq (.ops false [⟨some 8, .mv (.t 0), none⟩, ⟨some 9, .nilck (.t 8), none⟩, ⟨some 10, .faddr 18 (.t 9), none⟩, ⟨some 11, .load none (.t 10), none⟩, ⟨some 12, .bin .add (.t 11) (.c (.int .i64 1)), none⟩, ⟨some 13, .nilck (.t 8), none⟩, ⟨some 14, .faddr 18 (.t 13), none⟩, ⟨none, .store 1 (.t 14) (.t 12), none⟩])
  (.seq (.seq (.ops false [⟨some 15, .faddr 0 (.t 3), none⟩, ⟨some 16, .load none (.t 15), none⟩])
  (.block 0 (.seq (.ops false [⟨some 18, .bin .eql (.t 16) (.c (.int .i64 1)), none⟩, ⟨some 17, .mv (.t 18), none⟩])
   (.cond (.t 17) (.seq (.ops false [⟨some 19, .mv (.t 0), none⟩, ⟨some 20, .faddr 3 (.t 3), none⟩, ⟨some 21, .load none (.t 20), none⟩, ⟨some 22, .callH 44 [(.t 19), (.t 21)], none⟩, ⟨some 4, .mv (.t 22), none⟩])
    (.ret))
    (.seq (.seq (.ops false [⟨some 24, .bin .eql (.t 16) (.c (.int .i64 2)), none⟩, ⟨some 23, .mv (.t 24), none⟩])
    (.cond (.t 23) (.skip)
     (.ops false [⟨some 25, .bin .eql (.t 16) (.c (.int .i64 3)), none⟩, ⟨some 23, .mv (.t 25), none⟩])))
    (.cond (.t 23) (.seq (.ops false [⟨some 26, .mv (.t 0), none⟩, ⟨some 27, .load (some 4) (.t 3), none⟩, ⟨some 28, .callH 45 [(.t 26), (.t 27)], none⟩, ⟨some 4, .mv (.t 28), none⟩])
     (.ret))
     (.seq (.seq (.ops false [⟨some 30, .bin .eql (.t 16) (.c (.int .i64 4)), none⟩, ⟨some 29, .mv (.t 30), none⟩])
     (.cond (.t 29) (.skip)
      (.ops false [⟨some 31, .bin .eql (.t 16) (.c (.int .i64 5)), none⟩, ⟨some 29, .mv (.t 31), none⟩])))
     (.cond (.t 29) (.seq (.ops false [⟨some 32, .mv (.t 0), none⟩, ⟨some 33, .load (some 4) (.t 3), none⟩, ⟨some 34, .callH 46 [(.t 32), (.t 33)], none⟩, ⟨some 4, .mv (.t 34), none⟩])
      (.ret))
      (.seq (.ops false [⟨some 36, .bin .eql (.t 16) (.c (.int .i64 6)), none⟩, ⟨some 35, .mv (.t 36), none⟩])
      (.cond (.t 35) (.ops false [⟨some 37, .mv (.t 0), none⟩, ⟨some 38, .faddr 1 (.t 3), none⟩, ⟨some 39, .load none (.t 38), none⟩, ⟨some 40, .nilck (.t 37), none⟩, ⟨some 41, .faddr 18 (.t 40), none⟩, ⟨none, .store 1 (.t 41) (.t 39), none⟩])
       (.seq (.ops false [⟨some 43, .bin .eql (.t 16) (.c (.int .i64 7)), none⟩, ⟨some 42, .mv (.t 43), none⟩])
       (.cond (.t 42) (.seq (.seq (.ops false [⟨some 44, .mv (.t 0), none⟩, ⟨some 45, .callH 47 [(.t 44), (.c (.int .i64 1))], none⟩, ⟨some 46, .un .not (.t 45), none⟩])
        (.cond (.t 46) (.seq (.ops false [⟨some 4, .mv (.c (.int .i64 13)), none⟩])
         (.ret))
         (.skip)))
        (.seq (.ops false [⟨some 47, .mv (.t 0), none⟩, ⟨some 48, .callH 48 [(.t 47)], none⟩, ⟨some 49, .bin .eql (.t 48) (.c (.int .i64 0)), none⟩])
        (.cond (.t 49) (.ops false [⟨some 50, .mv (.t 0), none⟩, ⟨some 51, .faddr 1 (.t 3), none⟩, ⟨some 52, .load none (.t 51), none⟩, ⟨some 53, .nilck (.t 50), none⟩, ⟨some 54, .faddr 18 (.t 53), none⟩, ⟨none, .store 1 (.t 54) (.t 52), none⟩])
         (.skip))))
        (.seq (.ops false [⟨some 56, .bin .eql (.t 16) (.c (.int .i64 8)), none⟩, ⟨some 55, .mv (.t 56), none⟩])
        (.cond (.t 55) (.seq (.ops false [⟨some 57, .mv (.t 0), none⟩, ⟨some 58, .load (some 4) (.t 3), none⟩, ⟨some 59, .callH 49 [(.t 57), (.t 58)], none⟩, ⟨some 4, .mv (.t 59), none⟩])
         (.ret))
         (.seq (.ops false [⟨some 61, .bin .eql (.t 16) (.c (.int .i64 9)), none⟩, ⟨some 60, .mv (.t 61), none⟩])
         (.cond (.t 60) (.seq (.ops false [⟨some 62, .mv (.t 0), none⟩, ⟨some 63, .load (some 4) (.t 3), none⟩, ⟨some 64, .callH 50 [(.t 62), (.t 63)], none⟩, ⟨some 4, .mv (.t 64), none⟩])
          (.ret))
          (.skip)))))))))))))))))
  (.seq (.ops false [⟨some 4, .mv (.c (.int .i64 0)), none⟩])
  (.ret))))),
  [.t 4]⟩

/- noria/noriaref28.place -/
def d_noriaref28_place : DFun := ⟨
  .seq (.ops false [⟨some 2, .mv (.c (.bool false)), none⟩])
  (.seq (.ops false [⟨some 3, .mv (.t 0), none⟩, ⟨some 4, .bin .geq (.t 3) (.c (.int .i64 0)), none⟩, ⟨some 5, .mv (.t 4), none⟩, ⟨some 6, .mv (.t 0), some (5, true)⟩, ⟨some 7, .bin .leq (.t 6) (.c (.int .i64 65535)), some (5, true)⟩, ⟨some 8, .pick (.t 5) (.t 7) (.c (.bool false)), none⟩, ⟨some 2, .mv (.t 8), none⟩])
  (.ret)),
  [.t 2]⟩

/- (*noria/noriaref30.R).push -/
def d_noriaref30_R_push : DFun := ⟨
  .seq (.seq (.ops false [⟨some 4, .mv (.t 0), none⟩, ⟨some 5, .nilck (.t 4), none⟩, ⟨some 6, .faddr 1 (.t 5), none⟩, ⟨some 7, .load none (.t 6), none⟩, ⟨some 8, .len (.t 7), none⟩, ⟨some 9, .bin .geq (.t 8) (.c (.int .i64 16)), none⟩])
  (.cond (.t 9) (.seq (.ops false [⟨some 10, .mv (.t 0), none⟩, ⟨some 11, .nilck (.t 10), none⟩, ⟨some 12, .faddr 3 (.t 11), none⟩, ⟨none, .store 1 (.t 12) (.c (.int .i64 13)), none⟩])
   (.ret))
   (.skip)))
  (.ops false [⟨some 13, .mv (.t 0), none⟩, ⟨some 14, .bslice false [.int .i64 0] [], none⟩, ⟨some 15, .mv (.t 0), none⟩, ⟨some 16, .nilck (.t 15), none⟩, ⟨some 17, .faddr 1 (.t 16), none⟩, ⟨some 18, .load none (.t 17), none⟩, ⟨some 19, .append 1 (.t 14) (.t 18), none⟩, ⟨some 20, .mv (.t 1), none⟩, ⟨some 21, .bslice true [.int .i64 0] [(some (.t 20))], none⟩, ⟨some 22, .fz (.append 1 (.t 19) (.t 21)), none⟩, ⟨some 23, .nilck (.t 13), none⟩, ⟨some 24, .faddr 1 (.t 23), none⟩, ⟨none, .store 1 (.t 24) (.t 22), none⟩]),
  []⟩

/- (*noria/noriaref30.R).there -/
def d_noriaref30_R_there : DFun := ⟨
  .seq (.ops false [⟨some 6, .mv (.c (.bool false)), none⟩])
  (.seq (.seq (.ops false [⟨some 7, .mv (.t 1), none⟩, ⟨some 8, .mv (.t 2), none⟩, ⟨some 9, .bin .add (.t 7) (.t 8), none⟩, ⟨some 10, .mv (.t 0), none⟩, ⟨some 11, .nilck (.t 10), none⟩, ⟨some 12, .faddr 0 (.t 11), none⟩, ⟨some 13, .load none (.t 12), none⟩, ⟨some 14, .len (.t 13), none⟩, ⟨some 15, .bin .gtr (.t 9) (.t 14), none⟩])
  (.cond (.t 15) (.seq (.ops false [⟨some 16, .mv (.t 0), none⟩, ⟨some 17, .nilck (.t 16), none⟩, ⟨some 18, .faddr 3 (.t 17), none⟩, ⟨none, .store 1 (.t 18) (.c (.int .i64 13)), none⟩])
   (.seq (.ops false [⟨some 6, .mv (.c (.bool false)), none⟩])
   (.ret)))
   (.skip)))
  (.seq (.ops false [⟨some 6, .mv (.c (.bool true)), none⟩])
  (.ret))),
  [.t 6]⟩

/- (*noria/noriaref30.R).pop -/
def d_noriaref30_R_pop : DFun := ⟨
  .seq (.ops false [⟨some 2, .mv (.c (.int .i64 0)), none⟩, ⟨some 3, .mv (.c (.bool false)), none⟩])
  (.seq (.seq (.ops false [⟨some 5, .mv (.t 0), none⟩, ⟨some 6, .nilck (.t 5), none⟩, ⟨some 7, .faddr 1 (.t 6), none⟩, ⟨some 8, .load none (.t 7), none⟩, ⟨some 9, .len (.t 8), none⟩, ⟨some 10, .bin .eql (.t 9) (.c (.int .i64 0)), none⟩])
  (.cond (.t 10) (.seq (.ops false [⟨some 11, .mv (.t 0), none⟩, ⟨some 12, .nilck (.t 11), none⟩, ⟨some 13, .faddr 3 (.t 12), none⟩, ⟨none, .store 1 (.t 13) (.c (.int .i64 13)), none⟩])
   (.seq (.ops false [⟨some 2, .mv (.c (.int .i64 0)), none⟩, ⟨some 3, .mv (.c (.bool false)), none⟩])
   (.ret)))
   (.skip)))
  (.seq (.ops true [⟨some 14, .mv (.t 0), none⟩, ⟨some 15, .nilck (.t 14), none⟩, ⟨some 16, .faddr 1 (.t 15), none⟩, ⟨some 17, .load none (.t 16), none⟩, ⟨some 18, .mv (.t 0), none⟩, ⟨some 19, .nilck (.t 18), none⟩, ⟨some 20, .faddr 1 (.t 19), none⟩, ⟨some 21, .load none (.t 20), none⟩, ⟨some 22, .len (.t 21), none⟩, ⟨some 23, .bin .sub (.t 22) (.c (.int .i64 1)), none⟩, ⟨some 24, .iaddr 1 (.t 17) (.t 23), none⟩, ⟨some 25, .load none (.t 24), none⟩, ⟨some 4, .mv (.t 25), none⟩])
  (.seq (.ops true [⟨some 26, .mv (.t 0), none⟩, ⟨some 27, .mv (.t 0), none⟩, ⟨some 28, .nilck (.t 27), none⟩, ⟨some 29, .faddr 1 (.t 28), none⟩, ⟨some 30, .load none (.t 29), none⟩, ⟨some 31, .mv (.t 0), none⟩, ⟨some 32, .nilck (.t 31), none⟩, ⟨some 33, .faddr 1 (.t 32), none⟩, ⟨some 34, .load none (.t 33), none⟩, ⟨some 35, .len (.t 34), none⟩, ⟨some 36, .bin .sub (.t 35) (.c (.int .i64 1)), none⟩, ⟨some 37, .slice 1 (.t 30) none (some (.t 36)) none, none⟩, ⟨some 38, .nilck (.t 26), none⟩, ⟨some 39, .faddr 1 (.t 38), none⟩, ⟨none, .store 1 (.t 39) (.t 37), none⟩])
  (.seq (.ops false [⟨some 40, .mv (.t 4), none⟩, ⟨some 2, .mv (.t 40), none⟩, ⟨some 3, .mv (.c (.bool true)), none⟩])
  (.ret))))),
  [.t 2, .t 3]⟩

/- (*noria/noriaref30.R).operate -/
def d_noriaref30_R_operate : DFun := ⟨
  .seq (.ops false [⟨some 3, .box (.t 1), none⟩])
  (.seq (.ops false [⟨some 11, .mv (.t 0), none⟩, ⟨some 12, .callH 28 [(.t 11)], none⟩, ⟨some 10, .mv (.t 12), none⟩, ⟨some 13, .extract 0 (.t 10), none⟩, ⟨some 14, .extract 1 (.t 10), none⟩, ⟨some 4, .mv (.t 13), none⟩, ⟨some 5, .mv (.t 14), none⟩])
  (.seq (.seq (.ops false [⟨some 15, .mv (.t 5), none⟩, ⟨some 16, .un .not (.t 15), none⟩])
  (.cond (.t 16) (.ret)
   (.skip)))
  (.seq (.ops false [⟨some 6, .mv (.c (.int .i64 0)), none⟩, ⟨some 7, .mv (.c (.int .i64 0)), none⟩])
  (.seq (.seq (.ops false [⟨some 17, .faddr 0 (.t 3), none⟩, ⟨some 18, .load none (.t 17), none⟩, ⟨some 19, .bin .eql (.t 18) (.c (.int .i64 4)), none⟩])
  (.cond (.t 19) (.ops false [⟨some 21, .faddr 1 (.t 3), none⟩, ⟨some 22, .load none (.t 21), none⟩, ⟨some 23, .mv (.t 4), none⟩, ⟨some 24, .callP 51 [(.t 22), (.t 23)], none⟩, ⟨some 20, .mv (.t 24), none⟩, ⟨some 25, .extract 0 (.t 20), none⟩, ⟨some 26, .extract 1 (.t 20), none⟩, ⟨some 6, .mv (.t 25), none⟩, ⟨some 7, .mv (.t 26), none⟩])
   (.seq (.ops false [⟨some 28, .mv (.t 0), none⟩, ⟨some 29, .callH 28 [(.t 28)], none⟩, ⟨some 27, .mv (.t 29), none⟩, ⟨some 30, .extract 0 (.t 27), none⟩, ⟨some 31, .extract 1 (.t 27), none⟩, ⟨some 8, .mv (.t 30), none⟩, ⟨some 9, .mv (.t 31), none⟩])
   (.seq (.seq (.ops false [⟨some 32, .mv (.t 9), none⟩, ⟨some 33, .un .not (.t 32), none⟩])
   (.cond (.t 33) (.ret)
    (.skip)))
   (.ops false [⟨some 35, .faddr 1 (.t 3), none⟩, ⟨some 36, .load none (.t 35), none⟩, ⟨some 37, .mv (.t 8), none⟩, ⟨some 38, .mv (.t 4), none⟩, ⟨some 39, .callP 52 [(.t 36), (.t 37), (.t 38)], none⟩, ⟨some 34, .mv (.t 39), none⟩, ⟨some 40, .extract 0 (.t 34), none⟩, ⟨some 41, .extract 1 (.t 34), none⟩, ⟨some 6, .mv (.t 40), none⟩, ⟨some 7, .mv (.t 41), none⟩])))))
  (.seq (.seq (.ops false [⟨some 42, .mv (.t 7), none⟩, ⟨some 43, .bin .neq (.t 42) (.c (.int .i64 0)), none⟩])
  (.cond (.t 43) (.seq (.ops false [⟨some 44, .mv (.t 0), none⟩, ⟨some 45, .mv (.t 7), none⟩, ⟨some 46, .nilck (.t 44), none⟩, ⟨some 47, .faddr 3 (.t 46), none⟩, ⟨none, .store 1 (.t 47) (.t 45), none⟩])
   (.ret))
   (.skip)))
  (.ops false [⟨some 48, .mv (.t 0), none⟩, ⟨some 49, .mv (.t 6), none⟩, ⟨some 50, .callH 26 [(.t 48), (.t 49)], none⟩])))))),
  []⟩

/- (*noria/noriaref30.R).place -/
def d_noriaref30_R_place : DFun := ⟨
  .seq (.ops false [⟨some 3, .box (.t 1), none⟩])
  (.seq (.ops false [⟨some 8, .mv (.t 0), none⟩, ⟨some 9, .callH 28 [(.t 8)], none⟩, ⟨some 7, .mv (.t 9), none⟩, ⟨some 10, .extract 0 (.t 7), none⟩, ⟨some 11, .extract 1 (.t 7), none⟩, ⟨some 4, .mv (.t 10), none⟩, ⟨some 5, .mv (.t 11), none⟩])
  (.seq (.seq (.ops false [⟨some 12, .mv (.t 5), none⟩, ⟨some 13, .un .not (.t 12), none⟩])
  (.cond (.t 13) (.ret)
   (.skip)))
  (.seq (.ops false [⟨some 6, .mv (.c (.int .i64 0)), none⟩])
  (.seq (.seq (.ops false [⟨some 14, .faddr 0 (.t 3), none⟩, ⟨some 15, .load none (.t 14), none⟩, ⟨some 16, .bin .eql (.t 15) (.c (.int .i64 9)), none⟩])
  (.cond (.t 16) (.seq (.ops false [⟨some 18, .mv (.t 0), none⟩, ⟨some 19, .callH 28 [(.t 18)], none⟩, ⟨some 17, .mv (.t 19), none⟩, ⟨some 20, .extract 0 (.t 17), none⟩, ⟨some 21, .extract 1 (.t 17), none⟩, ⟨some 6, .mv (.t 20), none⟩, ⟨some 5, .mv (.t 21), none⟩])
   (.seq (.ops false [⟨some 22, .mv (.t 5), none⟩, ⟨some 23, .un .not (.t 22), none⟩])
   (.cond (.t 23) (.ret)
    (.skip))))
   (.skip)))
  (.seq (.seq (.ops false [⟨some 24, .mv (.t 0), none⟩, ⟨some 25, .faddr 1 (.t 3), none⟩, ⟨some 26, .load none (.t 25), none⟩, ⟨some 27, .faddr 2 (.t 3), none⟩, ⟨some 28, .load none (.t 27), none⟩, ⟨some 29, .callH 27 [(.t 24), (.t 26), (.t 28)], none⟩, ⟨some 30, .un .not (.t 29), none⟩])
  (.cond (.t 30) (.ret)
   (.skip)))
  (.seq (.seq (.ops false [⟨some 31, .mv (.t 4), none⟩, ⟨some 32, .bin .lss (.t 31) (.c (.int .i64 0)), none⟩, ⟨some 33, .mv (.t 32), none⟩, ⟨some 34, .mv (.t 4), some (33, false)⟩, ⟨some 35, .faddr 2 (.t 3), some (33, false)⟩, ⟨some 36, .load none (.t 35), some (33, false)⟩, ⟨some 37, .bin .geq (.t 34) (.t 36), some (33, false)⟩, ⟨some 38, .pick (.t 33) (.c (.bool true)) (.t 37), none⟩])
  (.cond (.t 38) (.seq (.ops false [⟨some 39, .mv (.t 0), none⟩, ⟨some 40, .nilck (.t 39), none⟩, ⟨some 41, .faddr 3 (.t 40), none⟩, ⟨none, .store 1 (.t 41) (.c (.int .i64 16)), none⟩])
   (.ret))
   (.skip)))
  (.seq (.seq (.ops false [⟨some 42, .faddr 0 (.t 3), none⟩, ⟨some 43, .load none (.t 42), none⟩, ⟨some 44, .bin .eql (.t 43) (.c (.int .i64 9)), none⟩])
  (.cond (.t 44) (.seq (.ops true [⟨some 45, .mv (.t 0), none⟩, ⟨some 46, .nilck (.t 45), none⟩, ⟨some 47, .faddr 0 (.t 46), none⟩, ⟨some 48, .load none (.t 47), none⟩, ⟨some 49, .faddr 1 (.t 3), none⟩, ⟨some 50, .load none (.t 49), none⟩, ⟨some 51, .mv (.t 4), none⟩, ⟨some 52, .bin .add (.t 50) (.t 51), none⟩, ⟨some 53, .mv (.t 6), none⟩, ⟨some 54, .iaddr 1 (.t 48) (.t 52), none⟩, ⟨none, .store 1 (.t 54) (.t 53), none⟩])
   (.ret))
   (.skip)))
  (.ops true [⟨some 55, .mv (.t 0), none⟩, ⟨some 56, .mv (.t 0), none⟩, ⟨some 57, .nilck (.t 56), none⟩, ⟨some 58, .faddr 0 (.t 57), none⟩, ⟨some 59, .load none (.t 58), none⟩, ⟨some 60, .faddr 1 (.t 3), none⟩, ⟨some 61, .load none (.t 60), none⟩, ⟨some 62, .mv (.t 4), none⟩, ⟨some 63, .bin .add (.t 61) (.t 62), none⟩, ⟨some 64, .iaddr 1 (.t 59) (.t 63), none⟩, ⟨some 65, .load none (.t 64), none⟩, ⟨some 66, .callH 26 [(.t 55), (.t 65)], none⟩])))))))),
  []⟩

/- slices.ContainsFunc[[]int,int] -/
def d_slices_ContainsFunc_int_int : DFun := ⟨
  .seq (.ops false [⟨some 4, .mv (.c (.bool false)), none⟩])
  (.seq (.ops false [⟨some 5, .mv (.t 0), none⟩, ⟨some 6, .mv (.t 1), none⟩, ⟨some 7, .callP 53 [(.t 5), (.t 6)], none⟩, ⟨some 8, .bin .geq (.t 7) (.c (.int .i64 0)), none⟩, ⟨some 4, .mv (.t 8), none⟩])
  (.ret)),
  [.t 4]⟩

/- noria/verify.Shape$1 -/
def d_verify_Shape_1 : DFun := ⟨
  .seq (.ops false [⟨some 2, .mv (.c (.bool false)), none⟩])
  (.seq (.ops false [⟨some 3, .mv (.t 0), none⟩, ⟨some 4, .bin .lss (.t 3) (.c (.int .i64 1)), none⟩, ⟨some 2, .mv (.t 4), none⟩])
  (.ret)),
  [.t 2]⟩

/- noria/verify.Shape$2 -/
def d_verify_Shape_2 : DFun := ⟨
  .seq (.ops false [⟨some 3, .mv (.c (.bool false)), none⟩])
  (.seq (.ops false [⟨some 4, .load (some 4) (.t 1), none⟩, ⟨some 5, .mv (.t 0), none⟩, ⟨some 6, .callP 34 [(.t 4), (.t 5)], none⟩, ⟨some 7, .un .not (.t 6), none⟩, ⟨some 3, .mv (.t 7), none⟩])
  (.ret)),
  [.t 3]⟩

/- (noria/verify.shape).is -/
def d_verify_shape_is : DFun := ⟨
  .seq (.ops false [⟨some 2, .box (.t 0), none⟩, ⟨some 4, .mv (.c (.bool false)), none⟩])
  (.seq (.ops false [⟨some 5, .mv (.t 1), none⟩, ⟨some 6, .bin .geq (.t 5) (.c (.int .i64 1)), none⟩, ⟨some 7, .mv (.t 6), none⟩, ⟨some 8, .mv (.t 1), some (7, true)⟩, ⟨some 9, .faddr 0 (.t 2), some (7, true)⟩, ⟨some 10, .faddr 0 (.t 9), some (7, true)⟩, ⟨some 11, .load none (.t 10), some (7, true)⟩, ⟨some 12, .len (.t 11), some (7, true)⟩, ⟨some 13, .bin .add (.c (.int .i64 3)) (.t 12), some (7, true)⟩, ⟨some 14, .bin .lss (.t 8) (.t 13), some (7, true)⟩, ⟨some 15, .pick (.t 7) (.t 14) (.c (.bool false)), none⟩, ⟨some 4, .mv (.t 15), none⟩])
  (.ret)),
  [.t 4]⟩

/- noria/noriaref29.Kind -/
def d_noriaref29_Kind : DFun := ⟨
  .seq (.ops false [⟨some 2, .box (.t 0), none⟩, ⟨some 4, .mv (.c (.bool false)), none⟩])
  (.seq (.ops false [⟨some 5, .mv (.t 1), none⟩, ⟨some 6, .bin .eql (.t 5) (.c (.int .i64 1)), none⟩, ⟨some 7, .mv (.t 6), none⟩, ⟨some 8, .mv (.t 1), some (7, false)⟩, ⟨some 9, .bin .eql (.t 8) (.c (.int .i64 2)), some (7, false)⟩, ⟨some 10, .pick (.t 7) (.c (.bool true)) (.t 9), none⟩, ⟨some 11, .mv (.t 10), none⟩, ⟨some 12, .mv (.t 1), some (11, false)⟩, ⟨some 13, .bin .geq (.t 12) (.c (.int .i64 3)), some (11, false)⟩, ⟨some 14, .mv (.t 13), some (11, false)⟩, ⟨some 15, .mv (.t 1), some (14, true)⟩, ⟨some 16, .faddr 0 (.t 2), some (14, true)⟩, ⟨some 17, .load none (.t 16), some (14, true)⟩, ⟨some 18, .len (.t 17), some (14, true)⟩, ⟨some 19, .bin .add (.c (.int .i64 3)) (.t 18), some (14, true)⟩, ⟨some 20, .bin .lss (.t 15) (.t 19), some (14, true)⟩, ⟨some 21, .pick (.t 14) (.t 20) (.c (.bool false)), some (11, false)⟩, ⟨some 22, .pick (.t 11) (.c (.bool true)) (.t 21), none⟩, ⟨some 4, .mv (.t 22), none⟩])
  (.ret)),
  [.t 4]⟩

/- noria/noriaref29.without -/
def d_noriaref29_without : DFun := ⟨
  .seq (.ops false [⟨some 6, .mv (.c (.nil)), none⟩])
  (.seq (.ops false [⟨some 8, .bslice false [.int .i64 0] [], none⟩, ⟨some 9, .mv (.t 0), none⟩, ⟨some 10, .mv (.t 0), none⟩, ⟨some 11, .len (.t 10), none⟩, ⟨some 12, .mv (.t 1), none⟩, ⟨some 13, .bin .sub (.t 11) (.t 12), none⟩, ⟨some 14, .slice 1 (.t 9) none (some (.t 13)) none, none⟩, ⟨some 15, .append 1 (.t 8) (.t 14), none⟩, ⟨some 7, .mv (.t 15), none⟩])
  (.seq (.seq (.ops false [⟨some 16, .mv (.t 2), none⟩, ⟨some 17, .bin .neq (.t 16) (.c (.int .i64 0)), none⟩])
  (.cond (.t 17) (.ops false [⟨some 18, .mv (.t 7), none⟩, ⟨some 19, .mv (.t 2), none⟩, ⟨some 20, .bslice true [.int .i64 0] [(some (.t 19))], none⟩, ⟨some 21, .append 1 (.t 18) (.t 20), none⟩, ⟨some 7, .mv (.t 21), none⟩])
   (.skip)))
  (.seq (.ops false [⟨some 22, .mv (.t 7), none⟩, ⟨some 6, .mv (.t 22), none⟩])
  (.ret)))),
  [.t 6]⟩

/- noria/noriaref07.UnTy -/
def d_noriaref07_UnTy : DFun := ⟨
  .seq (.ops false [⟨some 3, .box (.t 1), none⟩, ⟨some 4, .alloc [.int .i64 0, .int .i64 0, .int .i64 0], none⟩, ⟨some 5, .mv (.c (.bool false)), none⟩])
  (.seq (.seq (.ops true [⟨some 6, .mv (.t 0), none⟩, ⟨some 7, .bin .eql (.t 6) (.c (.int .i64 1)), none⟩, ⟨some 8, .mv (.t 7), none⟩, ⟨some 9, .load (some 3) (.t 3), some (8, true)⟩, ⟨some 10, .callP 54 [(.c (.int .i64 1))], some (8, true)⟩, ⟨some 11, .aeq false [0, 0, 0] (.t 9) (.t 10), some (8, true)⟩, ⟨some 12, .pick (.t 8) (.t 11) (.c (.bool false)), none⟩, ⟨some 13, .mv (.t 12), none⟩, ⟨some 14, .mv (.t 0), some (13, false)⟩, ⟨some 15, .bin .eql (.t 14) (.c (.int .i64 2)), some (13, false)⟩, ⟨some 16, .mv (.t 15), some (13, false)⟩, ⟨some 17, .load (some 3) (.t 3), some (16, true)⟩, ⟨some 18, .callP 54 [(.c (.int .i64 2))], some (16, true)⟩, ⟨some 19, .aeq false [0, 0, 0] (.t 17) (.t 18), some (16, true)⟩, ⟨some 20, .pick (.t 16) (.t 19) (.c (.bool false)), some (13, false)⟩, ⟨some 21, .pick (.t 13) (.c (.bool true)) (.t 20), none⟩])
  (.cond (.t 21) (.seq (.ops false [⟨some 22, .load (some 3) (.t 3), none⟩, ⟨none, .store 3 (.t 4) (.t 22), none⟩, ⟨some 5, .mv (.c (.bool true)), none⟩])
   (.ret))
   (.skip)))
  (.seq (.ops false [⟨some 23, .build [.int .i64 0, .int .i64 0, .int .i64 0] [], none⟩, ⟨none, .store 3 (.t 4) (.t 23), none⟩, ⟨some 5, .mv (.c (.bool false)), none⟩])
  (.ret))),
  [.cell 4 (some 3), .t 5]⟩

/- noria/noriaref29.ty -/
def d_noriaref29_ty : DFun := ⟨
  .seq (.ops false [⟨some 2, .alloc [.int .i64 0, .int .i64 0, .int .i64 0], none⟩])
  (.seq (.seq (.ops false [⟨some 3, .mv (.t 0), none⟩, ⟨some 4, .bin .lss (.t 3) (.c (.int .i64 3)), none⟩])
  (.cond (.t 4) (.seq (.ops false [⟨some 5, .mv (.t 0), none⟩, ⟨some 6, .build [.int .i64 0, .int .i64 0, .int .i64 0] [(0, 1, (.t 5))], none⟩, ⟨none, .store 3 (.t 2) (.t 6), none⟩])
   (.ret))
   (.skip)))
  (.seq (.ops false [⟨some 7, .mv (.t 0), none⟩, ⟨some 8, .bin .sub (.t 7) (.c (.int .i64 3)), none⟩, ⟨some 9, .build [.int .i64 0, .int .i64 0, .int .i64 0] [(0, 1, (.c (.int .i64 3))), (1, 1, (.t 8))], none⟩, ⟨none, .store 3 (.t 2) (.t 9), none⟩])
  (.ret))),
  [.cell 2 (some 3)]⟩

/- noria/noriaref29.top -/
def d_noriaref29_top : DFun := ⟨
  .seq (.ops false [⟨some 4, .mv (.c (.int .i64 0)), none⟩])
  (.seq (.seq (.ops false [⟨some 5, .mv (.t 1), none⟩, ⟨some 6, .mv (.t 0), none⟩, ⟨some 7, .len (.t 6), none⟩, ⟨some 8, .bin .geq (.t 5) (.t 7), none⟩])
  (.cond (.t 8) (.seq (.ops false [⟨some 4, .mv (.c (.int .i64 0)), none⟩])
   (.ret))
   (.skip)))
  (.seq (.ops false [⟨some 9, .mv (.t 0), none⟩, ⟨some 10, .mv (.t 0), none⟩, ⟨some 11, .len (.t 10), none⟩, ⟨some 12, .bin .sub (.t 11) (.c (.int .i64 1)), none⟩, ⟨some 13, .mv (.t 1), none⟩, ⟨some 14, .bin .sub (.t 12) (.t 13), none⟩, ⟨some 15, .iaddr 1 (.t 9) (.t 14), none⟩, ⟨some 16, .load none (.t 15), none⟩, ⟨some 4, .mv (.t 16), none⟩])
  (.ret))),
  [.t 4]⟩

/- noria/noriaref29.kind -/
def d_noriaref29_kind : DFun := ⟨
  .seq (.ops false [⟨some 1, .box (.t 0), none⟩, ⟨some 2, .mv (.c (.int .i64 0)), none⟩])
  (.seq (.seq (.ops false [⟨some 3, .faddr 0 (.t 1), none⟩, ⟨some 4, .load none (.t 3), none⟩, ⟨some 5, .bin .lss (.t 4) (.c (.int .i64 3)), none⟩])
  (.cond (.t 5) (.seq (.ops false [⟨some 6, .faddr 0 (.t 1), none⟩, ⟨some 7, .load none (.t 6), none⟩, ⟨some 2, .mv (.t 7), none⟩])
   (.ret))
   (.skip)))
  (.seq (.ops false [⟨some 8, .faddr 1 (.t 1), none⟩, ⟨some 9, .load none (.t 8), none⟩, ⟨some 10, .bin .add (.c (.int .i64 3)) (.t 9), none⟩, ⟨some 2, .mv (.t 10), none⟩])
  (.ret))),
  [.t 2]⟩

def c_noriaref07_BinTy_1 : DCode := (.seq (.seq (.ops false [⟨some 36, .mv (.t 0), none⟩, ⟨some 37, .bin .geq (.t 36) (.c (.int .i64 8)), none⟩, ⟨some 38, .mv (.t 37), none⟩, ⟨some 39, .mv (.t 0), some (38, true)⟩, ⟨some 40, .bin .leq (.t 39) (.c (.int .i64 10)), some (38, true)⟩, ⟨some 41, .pick (.t 38) (.t 40) (.c (.bool false)), none⟩, ⟨some 42, .mv (.t 41), none⟩, ⟨some 43, .mv (.t 9), some (42, true)⟩, ⟨some 44, .pick (.t 42) (.t 43) (.c (.bool false)), none⟩, ⟨some 45, .mv (.t 44), none⟩, ⟨some 46, .mv (.t 0), some (45, false)⟩, ⟨some 47, .bin .geq (.t 46) (.c (.int .i64 13)), some (45, false)⟩, ⟨some 48, .mv (.t 47), some (45, false)⟩, ⟨some 49, .mv (.t 0), some (48, true)⟩, ⟨some 50, .bin .leq (.t 49) (.c (.int .i64 16)), some (48, true)⟩, ⟨some 51, .pick (.t 48) (.t 50) (.c (.bool false)), some (45, false)⟩, ⟨some 52, .mv (.t 51), some (45, false)⟩, ⟨some 53, .mv (.t 8), some (52, true)⟩, ⟨some 54, .pick (.t 52) (.t 53) (.c (.bool false)), some (45, false)⟩, ⟨some 55, .pick (.t 45) (.c (.bool true)) (.t 54), none⟩, ⟨some 56, .mv (.t 55), none⟩, ⟨some 57, .mv (.t 0), some (56, false)⟩, ⟨some 58, .bin .eql (.t 57) (.c (.int .i64 11)), some (56, false)⟩, ⟨some 59, .mv (.t 58), some (56, false)⟩, ⟨some 60, .mv (.t 0), some (59, false)⟩, ⟨some 61, .bin .eql (.t 60) (.c (.int .i64 12)), some (59, false)⟩, ⟨some 62, .pick (.t 59) (.c (.bool true)) (.t 61), some (56, false)⟩, ⟨some 63, .mv (.t 62), some (56, false)⟩, ⟨some 64, .load (some 3) (.t 4), some (63, true)⟩, ⟨some 65, .load (some 3) (.t 5), some (63, true)⟩, ⟨some 66, .aeq false [0, 0, 0] (.t 64) (.t 65), some (63, true)⟩, ⟨some 67, .pick (.t 63) (.t 66) (.c (.bool false)), some (56, false)⟩, ⟨some 68, .mv (.t 67), some (56, false)⟩, ⟨some 69, .faddr 2 (.t 4), some (68, true)⟩, ⟨some 70, .load none (.t 69), some (68, true)⟩, ⟨some 71, .bin .eql (.t 70) (.c (.int .i64 0)), some (68, true)⟩, ⟨some 72, .pick (.t 68) (.t 71) (.c (.bool false)), some (56, false)⟩, ⟨some 73, .pick (.t 56) (.c (.bool true)) (.t 72), none⟩])
  (.cond (.t 73) (.seq (.ops false [⟨some 74, .callP 54 [(.c (.int .i64 2))], none⟩, ⟨none, .store 3 (.t 6) (.t 74), none⟩, ⟨some 7, .mv (.c (.bool true)), none⟩])
   (.ret))
   (.skip)))
  (.seq (.ops false [⟨some 75, .build [.int .i64 0, .int .i64 0, .int .i64 0] [], none⟩, ⟨none, .store 3 (.t 6) (.t 75), none⟩, ⟨some 7, .mv (.c (.bool false)), none⟩])
  (.ret)))

def c_noriaref07_BinTy_2 : DCode := (.seq (.seq (.ops false [⟨some 26, .mv (.t 0), none⟩, ⟨some 27, .bin .geq (.t 26) (.c (.int .i64 3)), none⟩, ⟨some 28, .mv (.t 27), none⟩, ⟨some 29, .mv (.t 0), some (28, true)⟩, ⟨some 30, .bin .leq (.t 29) (.c (.int .i64 7)), some (28, true)⟩, ⟨some 31, .pick (.t 28) (.t 30) (.c (.bool false)), none⟩, ⟨some 32, .mv (.t 31), none⟩, ⟨some 33, .mv (.t 8), some (32, true)⟩, ⟨some 34, .pick (.t 32) (.t 33) (.c (.bool false)), none⟩])
  (.cond (.t 34) (.seq (.ops false [⟨some 35, .callP 54 [(.c (.int .i64 1))], none⟩, ⟨none, .store 3 (.t 6) (.t 35), none⟩, ⟨some 7, .mv (.c (.bool true)), none⟩])
   (.ret))
   (.skip)))
  (.cut [0, 4, 5, 6, 8, 9] (some 3) c_noriaref07_BinTy_1))

/- noria/noriaref07.BinTy -/
def d_noriaref07_BinTy : DFun := ⟨
  .seq (.ops false [⟨some 4, .box (.t 1), none⟩, ⟨some 5, .box (.t 2), none⟩, ⟨some 6, .alloc [.int .i64 0, .int .i64 0, .int .i64 0], none⟩, ⟨some 7, .mv (.c (.bool false)), none⟩])
  (.seq (.opsP [(0, ⟨some 10, .load (some 3) (.t 4), none⟩), (8, ⟨some 18, .load (some 3) (.t 4), none⟩), (1, ⟨some 11, .callP 54 [(.c (.int .i64 1))], none⟩), (2, ⟨some 12, .aeq false [0, 0, 0] (.t 10) (.t 11), none⟩), (3, ⟨some 13, .mv (.t 12), none⟩), (4, ⟨some 14, .load (some 3) (.t 5), some (13, true)⟩), (5, ⟨some 15, .callP 54 [(.c (.int .i64 1))], some (13, true)⟩), (6, ⟨some 16, .aeq false [0, 0, 0] (.t 14) (.t 15), some (13, true)⟩), (7, ⟨some 17, .pick (.t 13) (.t 16) (.c (.bool false)), none⟩), (9, ⟨some 19, .callP 54 [(.c (.int .i64 2))], none⟩), (10, ⟨some 20, .aeq false [0, 0, 0] (.t 18) (.t 19), none⟩), (11, ⟨some 21, .mv (.t 20), none⟩), (12, ⟨some 22, .load (some 3) (.t 5), some (21, true)⟩), (13, ⟨some 23, .callP 54 [(.c (.int .i64 2))], some (21, true)⟩), (14, ⟨some 24, .aeq false [0, 0, 0] (.t 22) (.t 23), some (21, true)⟩), (15, ⟨some 25, .pick (.t 21) (.t 24) (.c (.bool false)), none⟩), (16, ⟨some 8, .mv (.t 17), none⟩), (17, ⟨some 9, .mv (.t 25), none⟩)])
  (.cut [0, 4, 5, 6, 8, 9] (some 3) c_noriaref07_BinTy_2)),
  [.cell 6 (some 3), .t 7]⟩

/- noria/noriaref29.memory -/
def d_noriaref29_memory : DFun := ⟨
  .seq (.ops false [⟨some 3, .box (.t 0), none⟩, ⟨some 4, .box (.t 1), none⟩, ⟨some 6, .mv (.c (.nil)), none⟩, ⟨some 7, .mv (.c (.bool false)), none⟩])
  (.seq (.ops false [⟨some 10, .faddr 2 (.t 4), none⟩, ⟨some 11, .load none (.t 10), none⟩, ⟨some 12, .minmax true (.c (.int .i64 1)) (.t 11), none⟩, ⟨some 8, .mv (.t 12), none⟩])
  (.seq (.ops false [⟨some 13, .load (some 4) (.t 3), none⟩, ⟨some 14, .faddr 1 (.t 4), none⟩, ⟨some 15, .load none (.t 14), none⟩, ⟨some 16, .mv (.t 8), none⟩, ⟨some 17, .callP 55 [(.t 13), (.t 15), (.t 16)], none⟩, ⟨some 9, .mv (.t 17), none⟩])
  (.seq (.seq (.ops false [⟨some 18, .mv (.t 9), none⟩, ⟨some 19, .bin .eql (.t 18) (.c (.int .i64 0)), none⟩])
  (.cond (.t 19) (.seq (.ops false [⟨some 6, .mv (.c (.nil)), none⟩, ⟨some 7, .mv (.c (.bool false)), none⟩])
   (.ret))
   (.skip)))
  (.seq (.seq (.ops false [⟨some 20, .faddr 0 (.t 4), none⟩, ⟨some 21, .load none (.t 20), none⟩])
  (.block 0 (.seq (.ops false [⟨some 23, .bin .eql (.t 21) (.c (.int .i64 2)), none⟩, ⟨some 22, .mv (.t 23), none⟩])
   (.cond (.t 22) (.seq (.ops false [⟨some 24, .mv (.t 2), none⟩, ⟨some 25, .mv (.t 9), none⟩, ⟨some 26, .callP 36 [(.t 24), (.c (.int .i64 0)), (.t 25)], none⟩, ⟨some 27, .mv (.t 2), none⟩, ⟨some 28, .len (.t 27), none⟩, ⟨some 29, .bin .lss (.t 28) (.c (.int .i64 16)), none⟩, ⟨some 6, .mv (.t 26), none⟩, ⟨some 7, .mv (.t 29), none⟩])
    (.ret))
    (.seq (.ops false [⟨some 31, .bin .eql (.t 21) (.c (.int .i64 3)), none⟩, ⟨some 30, .mv (.t 31), none⟩])
    (.cond (.t 30) (.seq (.seq (.ops false [⟨some 32, .mv (.t 2), none⟩, ⟨some 33, .callP 39 [(.t 32), (.c (.int .i64 0))], none⟩, ⟨some 34, .mv (.t 9), none⟩, ⟨some 35, .bin .neq (.t 33) (.t 34), none⟩, ⟨some 36, .mv (.t 35), none⟩, ⟨some 37, .load (some 4) (.t 3), some (36, false)⟩, ⟨some 38, .faddr 1 (.t 4), some (36, false)⟩, ⟨some 39, .load none (.t 38), some (36, false)⟩, ⟨some 40, .mv (.t 8), some (36, false)⟩, ⟨some 41, .callP 56 [(.t 37), (.t 39), (.t 40)], some (36, false)⟩, ⟨some 42, .un .not (.t 41), some (36, false)⟩, ⟨some 43, .pick (.t 36) (.c (.bool true)) (.t 42), none⟩])
     (.cond (.t 43) (.seq (.ops false [⟨some 6, .mv (.c (.nil)), none⟩, ⟨some 7, .mv (.c (.bool false)), none⟩])
      (.ret))
      (.skip)))
     (.seq (.ops false [⟨some 44, .mv (.t 2), none⟩, ⟨some 45, .callP 36 [(.t 44), (.c (.int .i64 1)), (.c (.int .i64 0))], none⟩, ⟨some 6, .mv (.t 45), none⟩, ⟨some 7, .mv (.c (.bool true)), none⟩])
     (.ret)))
     (.seq (.ops false [⟨some 47, .bin .eql (.t 21) (.c (.int .i64 8)), none⟩, ⟨some 46, .mv (.t 47), none⟩])
     (.cond (.t 46) (.seq (.seq (.ops false [⟨some 48, .mv (.t 2), none⟩, ⟨some 49, .callP 39 [(.t 48), (.c (.int .i64 0))], none⟩, ⟨some 50, .bin .neq (.t 49) (.c (.int .i64 1)), none⟩])
      (.cond (.t 50) (.seq (.ops false [⟨some 6, .mv (.c (.nil)), none⟩, ⟨some 7, .mv (.c (.bool false)), none⟩])
       (.ret))
       (.skip)))
      (.seq (.ops false [⟨some 51, .mv (.t 2), none⟩, ⟨some 52, .mv (.t 9), none⟩, ⟨some 53, .callP 36 [(.t 51), (.c (.int .i64 1)), (.t 52)], none⟩, ⟨some 6, .mv (.t 53), none⟩, ⟨some 7, .mv (.c (.bool true)), none⟩])
      (.ret)))
      (.skip)))))))))
  (.seq (.seq (.ops false [⟨some 54, .mv (.t 2), none⟩, ⟨some 55, .callP 39 [(.t 54), (.c (.int .i64 0))], none⟩, ⟨some 56, .bin .neq (.t 55) (.c (.int .i64 1)), none⟩, ⟨some 57, .mv (.t 56), none⟩, ⟨some 58, .mv (.t 2), some (57, false)⟩, ⟨some 59, .callP 39 [(.t 58), (.c (.int .i64 1))], some (57, false)⟩, ⟨some 60, .mv (.t 9), some (57, false)⟩, ⟨some 61, .bin .neq (.t 59) (.t 60), some (57, false)⟩, ⟨some 62, .pick (.t 57) (.c (.bool true)) (.t 61), none⟩, ⟨some 63, .mv (.t 62), none⟩, ⟨some 64, .load (some 4) (.t 3), some (63, false)⟩, ⟨some 65, .faddr 1 (.t 4), some (63, false)⟩, ⟨some 66, .load none (.t 65), some (63, false)⟩, ⟨some 67, .mv (.t 8), some (63, false)⟩, ⟨some 68, .callP 56 [(.t 64), (.t 66), (.t 67)], some (63, false)⟩, ⟨some 69, .un .not (.t 68), some (63, false)⟩, ⟨some 70, .pick (.t 63) (.c (.bool true)) (.t 69), none⟩])
  (.cond (.t 70) (.seq (.ops false [⟨some 6, .mv (.c (.nil)), none⟩, ⟨some 7, .mv (.c (.bool false)), none⟩])
   (.ret))
   (.skip)))
  (.seq (.ops false [⟨some 71, .mv (.t 2), none⟩, ⟨some 72, .callP 36 [(.t 71), (.c (.int .i64 2)), (.c (.int .i64 0))], none⟩, ⟨some 6, .mv (.t 72), none⟩, ⟨some 7, .mv (.c (.bool true)), none⟩])
  (.ret))))))),
  [.t 6, .t 7]⟩

/- noria/instr.Right -/
def d_instr_Right : DFun := ⟨
  .seq (.ops false [⟨some 1, .box (.t 0), none⟩, ⟨some 2, .mv (.c (.bool false)), none⟩])
  (.seq (.ops false [⟨some 6, .faddr 0 (.t 1), none⟩, ⟨some 7, .load none (.t 6), none⟩, ⟨some 8, .callP 57 [(.t 7)], none⟩, ⟨some 5, .mv (.t 8), none⟩, ⟨some 9, .extract 0 (.t 5), none⟩, ⟨some 10, .extract 1 (.t 5), none⟩, ⟨some 3, .alloc [.str [], .bool false, .bool false, .bool false, .bool false], none⟩, ⟨none, .store 5 (.t 3) (.t 9), none⟩, ⟨some 4, .mv (.t 10), none⟩])
  (.seq (.seq (.ops false [⟨some 11, .mv (.t 4), none⟩, ⟨some 12, .un .not (.t 11), none⟩, ⟨some 13, .mv (.t 12), none⟩, ⟨some 14, .load (some 4) (.t 1), some (13, false)⟩, ⟨some 15, .callP 58 [(.t 14)], some (13, false)⟩, ⟨some 16, .un .not (.t 15), some (13, false)⟩, ⟨some 17, .pick (.t 13) (.c (.bool true)) (.t 16), none⟩, ⟨some 18, .mv (.t 17), none⟩, ⟨some 19, .faddr 4 (.t 3), some (18, false)⟩, ⟨some 20, .load none (.t 19), some (18, false)⟩, ⟨some 21, .un .not (.t 20), some (18, false)⟩, ⟨some 22, .mv (.t 21), some (18, false)⟩, ⟨some 23, .faddr 3 (.t 1), some (22, true)⟩, ⟨some 24, .load none (.t 23), some (22, true)⟩, ⟨some 25, .bin .neq (.t 24) (.c (.int .i64 0)), some (22, true)⟩, ⟨some 26, .pick (.t 22) (.t 25) (.c (.bool false)), some (18, false)⟩, ⟨some 27, .pick (.t 18) (.c (.bool true)) (.t 26), none⟩])
  (.cond (.t 27) (.seq (.ops false [⟨some 2, .mv (.c (.bool false)), none⟩])
   (.ret))
   (.skip)))
  (.seq (.seq (.ops false [⟨some 28, .faddr 3 (.t 3), none⟩, ⟨some 29, .load none (.t 28), none⟩])
  (.cond (.t 29) (.seq (.ops false [⟨some 30, .faddr 2 (.t 1), none⟩, ⟨some 31, .load none (.t 30), none⟩, ⟨some 32, .callP 59 [(.t 31), (.c (.int .i64 1)), (.c (.int .i64 8))], none⟩, ⟨some 2, .mv (.t 32), none⟩])
   (.ret))
   (.skip)))
  (.seq (.ops false [⟨some 33, .faddr 2 (.t 1), none⟩, ⟨some 34, .load none (.t 33), none⟩, ⟨some 35, .bin .eql (.t 34) (.c (.int .i64 0)), none⟩, ⟨some 2, .mv (.t 35), none⟩])
  (.ret))))),
  [.t 2]⟩

/- (*noria/vm.machine).push -/
def d_vm_machine_push : DFun := ⟨
  .seq (.ops false [⟨some 4, .mv (.c (.int .i64 0)), none⟩])
  (.seq (.seq (.ops false [⟨some 5, .mv (.t 0), none⟩, ⟨some 6, .nilck (.t 5), none⟩, ⟨some 7, .faddr 17 (.t 6), none⟩, ⟨some 8, .load none (.t 7), none⟩, ⟨some 9, .bin .eql (.t 8) (.c (.int .i64 16)), none⟩])
  (.cond (.t 9) (.seq (.ops false [⟨some 4, .mv (.c (.int .i64 13)), none⟩])
   (.ret))
   (.skip)))
  (.seq (.ops true [⟨some 10, .mv (.t 0), none⟩, ⟨some 11, .mv (.t 0), none⟩, ⟨some 12, .nilck (.t 11), none⟩, ⟨some 13, .faddr 17 (.t 12), none⟩, ⟨some 14, .load none (.t 13), none⟩, ⟨some 15, .mv (.t 1), none⟩, ⟨some 16, .nilck (.t 10), none⟩, ⟨some 17, .faddr 1 (.t 16), none⟩, ⟨some 18, .iaddrA 16 1 (.t 17) (.t 14), none⟩, ⟨none, .store 1 (.t 18) (.t 15), none⟩])
  (.seq (.ops false [⟨some 19, .mv (.t 0), none⟩, ⟨some 20, .nilck (.t 19), none⟩, ⟨some 21, .faddr 17 (.t 20), none⟩, ⟨some 22, .load none (.t 21), none⟩, ⟨some 23, .bin .add (.t 22) (.c (.int .i64 1)), none⟩, ⟨some 24, .nilck (.t 19), none⟩, ⟨some 25, .faddr 17 (.t 24), none⟩, ⟨none, .store 1 (.t 25) (.t 23), none⟩])
  (.seq (.ops false [⟨some 4, .mv (.c (.int .i64 0)), none⟩])
  (.ret))))),
  [.t 4]⟩

/- (*noria/vm.machine).move -/
def d_vm_machine_move : DFun := ⟨
  .seq (.ops false [⟨some 3, .box (.t 1), none⟩, ⟨some 4, .mv (.c (.int .i64 0)), none⟩])
  (.seq (.seq (.ops false [⟨some 5, .mv (.t 0), none⟩, ⟨some 6, .faddr 1 (.t 3), none⟩, ⟨some 7, .load none (.t 6), none⟩, ⟨some 8, .callH 60 [(.t 5), (.t 7), (.c (.int .i64 1))], none⟩, ⟨some 9, .un .not (.t 8), none⟩])
  (.cond (.t 9) (.seq (.ops false [⟨some 4, .mv (.c (.int .i64 13)), none⟩])
   (.ret))
   (.skip)))
  (.seq (.seq (.ops false [⟨some 10, .faddr 0 (.t 3), none⟩, ⟨some 11, .load none (.t 10), none⟩, ⟨some 12, .bin .eql (.t 11) (.c (.int .i64 2)), none⟩])
  (.cond (.t 12) (.seq (.ops true [⟨some 13, .mv (.t 0), none⟩, ⟨some 14, .mv (.t 0), none⟩, ⟨some 15, .nilck (.t 14), none⟩, ⟨some 16, .faddr 0 (.t 15), none⟩, ⟨some 17, .load none (.t 16), none⟩, ⟨some 18, .faddr 1 (.t 3), none⟩, ⟨some 19, .load none (.t 18), none⟩, ⟨some 20, .iaddr 1 (.t 17) (.t 19), none⟩, ⟨some 21, .load none (.t 20), none⟩, ⟨some 22, .callH 44 [(.t 13), (.t 21)], none⟩, ⟨some 4, .mv (.t 22), none⟩])
   (.ret))
   (.skip)))
  (.seq (.seq (.ops false [⟨some 23, .mv (.t 0), none⟩, ⟨some 24, .callH 47 [(.t 23), (.c (.int .i64 1))], none⟩, ⟨some 25, .un .not (.t 24), none⟩])
  (.cond (.t 25) (.seq (.ops false [⟨some 4, .mv (.c (.int .i64 13)), none⟩])
   (.ret))
   (.skip)))
  (.seq (.opsS [] [(0, ⟨some 26, .mv (.t 0), none⟩), (1, ⟨some 27, .rk 17 (.nilck (.t 26)), none⟩), (2, ⟨some 28, .rk 17 (.faddr 0 (.t 27)), none⟩), (3, ⟨some 29, .rk 17 (.load none (.t 28)), none⟩), (4, ⟨some 30, .rk 17 (.faddr 1 (.t 3)), none⟩), (5, ⟨some 31, .rk 17 (.load none (.t 30)), none⟩), (6, ⟨some 32, .mv (.t 0), none⟩), (7, ⟨some 33, .tk 32 17 (.callH 48 [(.t 32)]), none⟩), (8, ⟨some 34, .iaddr 1 (.t 29) (.t 31), none⟩), (9, ⟨none, .store 1 (.t 34) (.t 33), none⟩)])
  (.seq (.ops false [⟨some 4, .mv (.c (.int .i64 0)), none⟩])
  (.ret)))))),
  [.t 4]⟩

/- (*noria/vm.machine).operate -/
def d_vm_machine_operate : DFun := ⟨
  .seq (.ops false [⟨some 3, .box (.t 1), none⟩, ⟨some 4, .mv (.c (.int .i64 0)), none⟩])
  (.seq (.ops false [⟨some 5, .mv (.c (.int .i64 0)), none⟩])
  (.seq (.ops false [⟨some 6, .mv (.c (.int .i64 0)), none⟩])
  (.seq (.seq (.ops false [⟨some 8, .faddr 0 (.t 3), none⟩, ⟨some 9, .load none (.t 8), none⟩, ⟨some 10, .bin .eql (.t 9) (.c (.int .i64 4)), none⟩])
  (.cond (.t 10) (.seq (.seq (.ops false [⟨some 11, .mv (.t 0), none⟩, ⟨some 12, .callH 47 [(.t 11), (.c (.int .i64 1))], none⟩, ⟨some 13, .un .not (.t 12), none⟩])
   (.cond (.t 13) (.seq (.ops false [⟨some 4, .mv (.c (.int .i64 13)), none⟩])
    (.ret))
    (.skip)))
   (.opsS [(3, 17), (15, 17), (3, 0), (15, 0)] [(0, ⟨some 15, .faddr 1 (.t 3), none⟩), (1, ⟨some 16, .load none (.t 15), none⟩), (2, ⟨some 17, .mv (.t 0), none⟩), (3, ⟨some 18, .to 17 (.callH 48 [(.t 17)]), none⟩), (4, ⟨some 19, .rd (.callP 61 [(.t 16), (.t 18)]), none⟩), (5, ⟨some 14, .mv (.t 19), none⟩), (6, ⟨some 20, .extract 0 (.t 14), none⟩), (7, ⟨some 21, .extract 1 (.t 14), none⟩), (8, ⟨some 5, .mv (.t 20), none⟩), (9, ⟨some 6, .mv (.t 21), none⟩)]))
   (.seq (.seq (.ops false [⟨some 22, .mv (.t 0), none⟩, ⟨some 23, .callH 47 [(.t 22), (.c (.int .i64 2))], none⟩, ⟨some 24, .un .not (.t 23), none⟩])
   (.cond (.t 24) (.seq (.ops false [⟨some 4, .mv (.c (.int .i64 13)), none⟩])
    (.ret))
    (.skip)))
   (.seq (.ops false [⟨some 25, .mv (.t 0), none⟩, ⟨some 26, .callH 48 [(.t 25)], none⟩, ⟨some 7, .mv (.t 26), none⟩])
   (.opsS [(3, 30), (28, 30), (3, 0), (28, 0)] [(0, ⟨some 28, .faddr 1 (.t 3), none⟩), (1, ⟨some 29, .load none (.t 28), none⟩), (2, ⟨some 30, .mv (.t 0), none⟩), (4, ⟨some 32, .mv (.t 7), none⟩), (3, ⟨some 31, .to 30 (.callH 48 [(.t 30)]), none⟩), (5, ⟨some 33, .rd (.callP 62 [(.t 29), (.t 31), (.t 32)]), none⟩), (6, ⟨some 27, .mv (.t 33), none⟩), (7, ⟨some 34, .extract 0 (.t 27), none⟩), (8, ⟨some 35, .extract 1 (.t 27), none⟩), (9, ⟨some 5, .mv (.t 34), none⟩), (10, ⟨some 6, .mv (.t 35), none⟩)])))))
  (.seq (.seq (.ops false [⟨some 36, .mv (.t 6), none⟩, ⟨some 37, .bin .neq (.t 36) (.c (.int .i64 0)), none⟩])
  (.cond (.t 37) (.seq (.ops false [⟨some 38, .mv (.t 6), none⟩, ⟨some 4, .mv (.t 38), none⟩])
   (.ret))
   (.skip)))
  (.seq (.ops false [⟨some 39, .mv (.t 0), none⟩, ⟨some 40, .mv (.t 5), none⟩, ⟨some 41, .callH 44 [(.t 39), (.t 40)], none⟩, ⟨some 4, .mv (.t 41), none⟩])
  (.ret)))))),
  [.t 4]⟩

/- (*noria/vm.machine).has -/
def d_vm_machine_has : DFun := ⟨
  .seq (.ops false [⟨some 4, .mv (.c (.bool false)), none⟩])
  (.seq (.ops false [⟨some 5, .mv (.t 0), none⟩, ⟨some 6, .nilck (.t 5), none⟩, ⟨some 7, .faddr 17 (.t 6), none⟩, ⟨some 8, .load none (.t 7), none⟩, ⟨some 9, .mv (.t 1), none⟩, ⟨some 10, .bin .geq (.t 8) (.t 9), none⟩, ⟨some 4, .mv (.t 10), none⟩])
  (.ret)),
  [.t 4]⟩

/- (*noria/vm.machine).pop -/
def d_vm_machine_pop : DFun := ⟨
  .seq (.ops false [⟨some 2, .mv (.c (.int .i64 0)), none⟩])
  (.seq (.ops false [⟨some 3, .mv (.t 0), none⟩, ⟨some 4, .nilck (.t 3), none⟩, ⟨some 5, .faddr 17 (.t 4), none⟩, ⟨some 6, .load none (.t 5), none⟩, ⟨some 7, .bin .sub (.t 6) (.c (.int .i64 1)), none⟩, ⟨some 8, .nilck (.t 3), none⟩, ⟨some 9, .faddr 17 (.t 8), none⟩, ⟨none, .store 1 (.t 9) (.t 7), none⟩])
  (.seq (.ops true [⟨some 10, .mv (.t 0), none⟩, ⟨some 11, .mv (.t 0), none⟩, ⟨some 12, .nilck (.t 11), none⟩, ⟨some 13, .faddr 17 (.t 12), none⟩, ⟨some 14, .load none (.t 13), none⟩, ⟨some 15, .nilck (.t 10), none⟩, ⟨some 16, .faddr 1 (.t 15), none⟩, ⟨some 17, .iaddrA 16 1 (.t 16) (.t 14), none⟩, ⟨some 18, .load none (.t 17), none⟩, ⟨some 2, .mv (.t 18), none⟩])
  (.ret))),
  [.t 2]⟩

/- (*noria/vm.machine).get -/
def d_vm_machine_get : DFun := ⟨
  .seq (.ops false [⟨some 3, .box (.t 1), none⟩, ⟨some 4, .mv (.c (.int .i64 0)), none⟩])
  (.seq (.seq (.ops false [⟨some 6, .mv (.t 0), none⟩, ⟨some 7, .callH 47 [(.t 6), (.c (.int .i64 1))], none⟩, ⟨some 8, .un .not (.t 7), none⟩, ⟨some 9, .mv (.t 8), none⟩, ⟨some 10, .mv (.t 0), some (9, false)⟩, ⟨some 11, .faddr 1 (.t 3), some (9, false)⟩, ⟨some 12, .load none (.t 11), some (9, false)⟩, ⟨some 13, .faddr 2 (.t 3), some (9, false)⟩, ⟨some 14, .load none (.t 13), some (9, false)⟩, ⟨some 15, .callH 60 [(.t 10), (.t 12), (.t 14)], some (9, false)⟩, ⟨some 16, .un .not (.t 15), some (9, false)⟩, ⟨some 17, .pick (.t 9) (.c (.bool true)) (.t 16), none⟩])
  (.cond (.t 17) (.seq (.ops false [⟨some 4, .mv (.c (.int .i64 13)), none⟩])
   (.ret))
   (.skip)))
  (.seq (.ops false [⟨some 18, .mv (.t 0), none⟩, ⟨some 19, .callH 48 [(.t 18)], none⟩, ⟨some 5, .mv (.t 19), none⟩])
  (.seq (.seq (.ops false [⟨some 20, .mv (.t 5), none⟩, ⟨some 21, .bin .lss (.t 20) (.c (.int .i64 0)), none⟩, ⟨some 22, .mv (.t 21), none⟩, ⟨some 23, .mv (.t 5), some (22, false)⟩, ⟨some 24, .faddr 2 (.t 3), some (22, false)⟩, ⟨some 25, .load none (.t 24), some (22, false)⟩, ⟨some 26, .bin .geq (.t 23) (.t 25), some (22, false)⟩, ⟨some 27, .pick (.t 22) (.c (.bool true)) (.t 26), none⟩])
  (.cond (.t 27) (.seq (.ops false [⟨some 4, .mv (.c (.int .i64 16)), none⟩])
   (.ret))
   (.skip)))
  (.seq (.ops true [⟨some 28, .mv (.t 0), none⟩, ⟨some 29, .mv (.t 0), none⟩, ⟨some 30, .nilck (.t 29), none⟩, ⟨some 31, .faddr 0 (.t 30), none⟩, ⟨some 32, .load none (.t 31), none⟩, ⟨some 33, .faddr 1 (.t 3), none⟩, ⟨some 34, .load none (.t 33), none⟩, ⟨some 35, .slice 1 (.t 32) (some (.t 34)) none none, none⟩, ⟨some 36, .mv (.t 5), none⟩, ⟨some 37, .iaddr 1 (.t 35) (.t 36), none⟩, ⟨some 38, .load none (.t 37), none⟩, ⟨some 39, .callH 44 [(.t 28), (.t 38)], none⟩, ⟨some 4, .mv (.t 39), none⟩])
  (.ret))))),
  [.t 4]⟩

/- (*noria/vm.machine).put -/
def d_vm_machine_put : DFun := ⟨
  .seq (.ops false [⟨some 3, .box (.t 1), none⟩, ⟨some 4, .mv (.c (.int .i64 0)), none⟩])
  (.seq (.seq (.ops false [⟨some 7, .mv (.t 0), none⟩, ⟨some 8, .callH 47 [(.t 7), (.c (.int .i64 2))], none⟩, ⟨some 9, .un .not (.t 8), none⟩, ⟨some 10, .mv (.t 9), none⟩, ⟨some 11, .mv (.t 0), some (10, false)⟩, ⟨some 12, .faddr 1 (.t 3), some (10, false)⟩, ⟨some 13, .load none (.t 12), some (10, false)⟩, ⟨some 14, .faddr 2 (.t 3), some (10, false)⟩, ⟨some 15, .load none (.t 14), some (10, false)⟩, ⟨some 16, .callH 60 [(.t 11), (.t 13), (.t 15)], some (10, false)⟩, ⟨some 17, .un .not (.t 16), some (10, false)⟩, ⟨some 18, .pick (.t 10) (.c (.bool true)) (.t 17), none⟩])
  (.cond (.t 18) (.seq (.ops false [⟨some 4, .mv (.c (.int .i64 13)), none⟩])
   (.ret))
   (.skip)))
  (.seq (.ops false [⟨some 19, .mv (.t 0), none⟩, ⟨some 20, .callH 48 [(.t 19)], none⟩, ⟨some 5, .mv (.t 20), none⟩])
  (.seq (.ops false [⟨some 21, .mv (.t 0), none⟩, ⟨some 22, .callH 48 [(.t 21)], none⟩, ⟨some 6, .mv (.t 22), none⟩])
  (.seq (.seq (.ops false [⟨some 23, .mv (.t 5), none⟩, ⟨some 24, .bin .lss (.t 23) (.c (.int .i64 0)), none⟩, ⟨some 25, .mv (.t 24), none⟩, ⟨some 26, .mv (.t 5), some (25, false)⟩, ⟨some 27, .faddr 2 (.t 3), some (25, false)⟩, ⟨some 28, .load none (.t 27), some (25, false)⟩, ⟨some 29, .bin .geq (.t 26) (.t 28), some (25, false)⟩, ⟨some 30, .pick (.t 25) (.c (.bool true)) (.t 29), none⟩])
  (.cond (.t 30) (.seq (.ops false [⟨some 4, .mv (.c (.int .i64 16)), none⟩])
   (.ret))
   (.skip)))
  (.seq (.ops true [⟨some 31, .mv (.t 0), none⟩, ⟨some 32, .nilck (.t 31), none⟩, ⟨some 33, .faddr 0 (.t 32), none⟩, ⟨some 34, .load none (.t 33), none⟩, ⟨some 35, .faddr 1 (.t 3), none⟩, ⟨some 36, .load none (.t 35), none⟩, ⟨some 37, .slice 1 (.t 34) (some (.t 36)) none none, none⟩, ⟨some 38, .mv (.t 5), none⟩, ⟨some 39, .mv (.t 6), none⟩, ⟨some 40, .iaddr 1 (.t 37) (.t 38), none⟩, ⟨none, .store 1 (.t 40) (.t 39), none⟩])
  (.seq (.ops false [⟨some 4, .mv (.c (.int .i64 0)), none⟩])
  (.ret))))))),
  [.t 4]⟩

/- noria/noriaref07.Un -/
def d_noriaref07_Un : DFun := ⟨
  .seq (.ops false [⟨some 4, .mv (.c (.int .i64 0)), none⟩, ⟨some 5, .mv (.c (.int .i64 0)), none⟩])
  (.seq (.seq (.ops false [⟨some 6, .mv (.t 0), none⟩, ⟨some 7, .bin .eql (.t 6) (.c (.int .i64 1)), none⟩])
  (.cond (.t 7) (.seq (.ops false [⟨some 8, .mv (.t 1), none⟩, ⟨some 9, .conv .u64 (.t 8), none⟩, ⟨some 10, .bin .sub (.c (.int .u64 0)) (.t 9), none⟩, ⟨some 11, .conv .i64 (.t 10), none⟩, ⟨some 4, .mv (.t 11), none⟩, ⟨some 5, .mv (.c (.int .i64 0)), none⟩])
   (.ret))
   (.skip)))
  (.seq (.seq (.ops false [⟨some 12, .mv (.t 0), none⟩, ⟨some 13, .bin .eql (.t 12) (.c (.int .i64 2)), none⟩])
  (.cond (.t 13) (.seq (.ops false [⟨some 14, .mv (.t 1), none⟩, ⟨some 15, .bin .eql (.t 14) (.c (.int .i64 0)), none⟩, ⟨some 16, .callP 63 [(.t 15)], none⟩, ⟨some 4, .mv (.t 16), none⟩, ⟨some 5, .mv (.c (.int .i64 0)), none⟩])
   (.ret))
   (.skip)))
  (.seq (.ops false [⟨some 4, .mv (.c (.int .i64 0)), none⟩, ⟨some 5, .mv (.c (.int .i64 1)), none⟩])
  (.ret)))),
  [.t 4, .t 5]⟩

/- noria/noriaref07.Bin -/
def d_noriaref07_Bin : DFun := ⟨
  .seq (.ops false [⟨some 6, .mv (.c (.int .i64 0)), none⟩, ⟨some 7, .mv (.c (.int .i64 0)), none⟩])
  (.seq (.ops false [⟨some 10, .mv (.t 1), none⟩, ⟨some 11, .bin .neq (.t 10) (.c (.int .i64 0)), none⟩, ⟨some 12, .mv (.t 2), none⟩, ⟨some 13, .bin .neq (.t 12) (.c (.int .i64 0)), none⟩, ⟨some 8, .mv (.t 11), none⟩, ⟨some 9, .mv (.t 13), none⟩])
  (.seq (.seq (.ops false [⟨some 14, .mv (.t 0), none⟩])
  (.block 0 (.seq (.seq (.ops false [⟨some 16, .bin .eql (.t 14) (.c (.int .i64 3)), none⟩, ⟨some 15, .mv (.t 16), none⟩])
   (.cond (.t 15) (.skip)
    (.seq (.ops false [⟨some 17, .bin .eql (.t 14) (.c (.int .i64 4)), none⟩, ⟨some 15, .mv (.t 17), none⟩])
    (.cond (.t 15) (.skip)
     (.seq (.ops false [⟨some 18, .bin .eql (.t 14) (.c (.int .i64 5)), none⟩, ⟨some 15, .mv (.t 18), none⟩])
     (.cond (.t 15) (.skip)
      (.seq (.ops false [⟨some 19, .bin .eql (.t 14) (.c (.int .i64 6)), none⟩, ⟨some 15, .mv (.t 19), none⟩])
      (.cond (.t 15) (.skip)
       (.ops false [⟨some 20, .bin .eql (.t 14) (.c (.int .i64 7)), none⟩, ⟨some 15, .mv (.t 20), none⟩])))))))))
   (.cond (.t 15) (.seq (.ops false [⟨some 21, .mv (.t 0), none⟩, ⟨some 22, .mv (.t 1), none⟩, ⟨some 23, .mv (.t 2), none⟩, ⟨some 24, .callP 64 [(.t 21), (.t 22), (.t 23)], none⟩, ⟨some 25, .extract 0 (.t 24), none⟩, ⟨some 26, .extract 1 (.t 24), none⟩, ⟨some 6, .mv (.t 25), none⟩, ⟨some 7, .mv (.t 26), none⟩])
    (.ret))
    (.seq (.ops false [⟨some 28, .bin .eql (.t 14) (.c (.int .i64 8)), none⟩, ⟨some 27, .mv (.t 28), none⟩])
    (.cond (.t 27) (.seq (.ops false [⟨some 29, .mv (.t 8), none⟩, ⟨some 30, .mv (.t 29), none⟩, ⟨some 31, .mv (.t 9), some (30, true)⟩, ⟨some 32, .pick (.t 30) (.t 31) (.c (.bool false)), none⟩, ⟨some 33, .callP 63 [(.t 32)], none⟩, ⟨some 6, .mv (.t 33), none⟩, ⟨some 7, .mv (.c (.int .i64 0)), none⟩])
     (.ret))
     (.seq (.ops false [⟨some 35, .bin .eql (.t 14) (.c (.int .i64 9)), none⟩, ⟨some 34, .mv (.t 35), none⟩])
     (.cond (.t 34) (.seq (.ops false [⟨some 36, .mv (.t 8), none⟩, ⟨some 37, .mv (.t 36), none⟩, ⟨some 38, .mv (.t 9), some (37, false)⟩, ⟨some 39, .pick (.t 37) (.c (.bool true)) (.t 38), none⟩, ⟨some 40, .callP 63 [(.t 39)], none⟩, ⟨some 6, .mv (.t 40), none⟩, ⟨some 7, .mv (.c (.int .i64 0)), none⟩])
      (.ret))
      (.seq (.ops false [⟨some 42, .bin .eql (.t 14) (.c (.int .i64 10)), none⟩, ⟨some 41, .mv (.t 42), none⟩])
      (.cond (.t 41) (.seq (.ops false [⟨some 43, .mv (.t 8), none⟩, ⟨some 44, .mv (.t 9), none⟩, ⟨some 45, .beq true (.t 43) (.t 44), none⟩, ⟨some 46, .callP 63 [(.t 45)], none⟩, ⟨some 6, .mv (.t 46), none⟩, ⟨some 7, .mv (.c (.int .i64 0)), none⟩])
       (.ret))
       (.seq (.ops false [⟨some 48, .bin .eql (.t 14) (.c (.int .i64 11)), none⟩, ⟨some 47, .mv (.t 48), none⟩])
       (.cond (.t 47) (.seq (.ops false [⟨some 49, .mv (.t 1), none⟩, ⟨some 50, .mv (.t 2), none⟩, ⟨some 51, .bin .eql (.t 49) (.t 50), none⟩, ⟨some 52, .callP 63 [(.t 51)], none⟩, ⟨some 6, .mv (.t 52), none⟩, ⟨some 7, .mv (.c (.int .i64 0)), none⟩])
        (.ret))
        (.seq (.ops false [⟨some 54, .bin .eql (.t 14) (.c (.int .i64 12)), none⟩, ⟨some 53, .mv (.t 54), none⟩])
        (.cond (.t 53) (.seq (.ops false [⟨some 55, .mv (.t 1), none⟩, ⟨some 56, .mv (.t 2), none⟩, ⟨some 57, .bin .neq (.t 55) (.t 56), none⟩, ⟨some 58, .callP 63 [(.t 57)], none⟩, ⟨some 6, .mv (.t 58), none⟩, ⟨some 7, .mv (.c (.int .i64 0)), none⟩])
         (.ret))
         (.seq (.ops false [⟨some 60, .bin .eql (.t 14) (.c (.int .i64 13)), none⟩, ⟨some 59, .mv (.t 60), none⟩])
         (.cond (.t 59) (.seq (.ops false [⟨some 61, .mv (.t 1), none⟩, ⟨some 62, .mv (.t 2), none⟩, ⟨some 63, .bin .lss (.t 61) (.t 62), none⟩, ⟨some 64, .callP 63 [(.t 63)], none⟩, ⟨some 6, .mv (.t 64), none⟩, ⟨some 7, .mv (.c (.int .i64 0)), none⟩])
          (.ret))
          (.seq (.ops false [⟨some 66, .bin .eql (.t 14) (.c (.int .i64 14)), none⟩, ⟨some 65, .mv (.t 66), none⟩])
          (.cond (.t 65) (.seq (.ops false [⟨some 67, .mv (.t 1), none⟩, ⟨some 68, .mv (.t 2), none⟩, ⟨some 69, .bin .leq (.t 67) (.t 68), none⟩, ⟨some 70, .callP 63 [(.t 69)], none⟩, ⟨some 6, .mv (.t 70), none⟩, ⟨some 7, .mv (.c (.int .i64 0)), none⟩])
           (.ret))
           (.seq (.ops false [⟨some 72, .bin .eql (.t 14) (.c (.int .i64 15)), none⟩, ⟨some 71, .mv (.t 72), none⟩])
           (.cond (.t 71) (.seq (.ops false [⟨some 73, .mv (.t 1), none⟩, ⟨some 74, .mv (.t 2), none⟩, ⟨some 75, .bin .gtr (.t 73) (.t 74), none⟩, ⟨some 76, .callP 63 [(.t 75)], none⟩, ⟨some 6, .mv (.t 76), none⟩, ⟨some 7, .mv (.c (.int .i64 0)), none⟩])
            (.ret))
            (.seq (.ops false [⟨some 78, .bin .eql (.t 14) (.c (.int .i64 16)), none⟩, ⟨some 77, .mv (.t 78), none⟩])
            (.cond (.t 77) (.seq (.ops false [⟨some 79, .mv (.t 1), none⟩, ⟨some 80, .mv (.t 2), none⟩, ⟨some 81, .bin .geq (.t 79) (.t 80), none⟩, ⟨some 82, .callP 63 [(.t 81)], none⟩, ⟨some 6, .mv (.t 82), none⟩, ⟨some 7, .mv (.c (.int .i64 0)), none⟩])
             (.ret))
             (.skip)))))))))))))))))))))))
  (.seq (.ops false [⟨some 6, .mv (.c (.int .i64 0)), none⟩, ⟨some 7, .mv (.c (.int .i64 1)), none⟩])
  (.ret)))),
  [.t 6, .t 7]⟩

/- slices.IndexFunc[[]int,int] -/
def d_slices_IndexFunc_int_int : DFun := ⟨
  .seq (.ops false [⟨some 4, .mv (.c (.int .i64 0)), none⟩])
  (.seq (.seq (.ops false [⟨some 6, .mv (.t 0), none⟩, ⟨some 7, .len (.t 6), none⟩, ⟨some 8, .mv (.c (.int .i64 0)), none⟩])
  (.block 0 (.loop [0, 1, 7, 8] (some 0) (.seq (.ops false [⟨some 9, .bin .lss (.t 8) (.t 7), none⟩])
    (.seq (.cond (.t 9) (.skip)
     (.exit 0))
    (.seq (.block 1 (.seq (.ops false [⟨some 10, .mv (.t 8), none⟩, ⟨some 5, .mv (.t 10), none⟩])
     (.seq (.ops false [⟨some 11, .mv (.t 1), none⟩, ⟨some 12, .mv (.t 0), none⟩, ⟨some 13, .mv (.t 5), none⟩, ⟨some 14, .iaddr 1 (.t 12) (.t 13), none⟩, ⟨some 15, .load none (.t 14), none⟩, ⟨some 16, .callvP (.t 11) [(.t 15)], none⟩])
     (.cond (.t 16) (.seq (.ops false [⟨some 17, .mv (.t 5), none⟩, ⟨some 4, .mv (.t 17), none⟩])
      (.ret))
      (.skip)))))
    (.ops false [⟨some 18, .bin .add (.t 8) (.c (.int .i64 1)), none⟩, ⟨some 8, .mv (.t 18), none⟩])))))))
  (.seq (.ops false [⟨some 4, .mv (.c (.int .i64 (-1))), none⟩])
  (.ret))),
  [.t 4]⟩

/- noria/noriaref07.plain -/
def d_noriaref07_plain : DFun := ⟨
  .seq (.ops false [⟨some 2, .alloc [.int .i64 0, .int .i64 0, .int .i64 0], none⟩])
  (.seq (.ops false [⟨some 3, .mv (.t 0), none⟩, ⟨some 4, .build [.int .i64 0, .int .i64 0, .int .i64 0] [(0, 1, (.t 3))], none⟩, ⟨none, .store 3 (.t 2) (.t 4), none⟩])
  (.ret)),
  [.cell 2 (some 3)]⟩

/- noria/noriaref29.cells -/
def d_noriaref29_cells : DFun := ⟨
  .seq (.ops false [⟨some 3, .box (.t 0), none⟩, ⟨some 6, .mv (.c (.int .i64 0)), none⟩])
  (.seq (.seq (.ops false [⟨some 8, .mv (.t 1), none⟩, ⟨some 9, .mv (.t 2), none⟩, ⟨some 10, .bin .add (.t 8) (.t 9), none⟩, ⟨some 11, .faddr 1 (.t 3), none⟩, ⟨some 12, .load none (.t 11), none⟩, ⟨some 13, .len (.t 12), none⟩, ⟨some 14, .bin .gtr (.t 10) (.t 13), none⟩])
  (.cond (.t 14) (.seq (.ops false [⟨some 6, .mv (.c (.int .i64 0)), none⟩])
   (.ret))
   (.skip)))
  (.seq (.seq (.ops false [⟨some 15, .mv (.t 1), none⟩, ⟨some 7, .mv (.t 15), none⟩])
  (.block 0 (.loop [1, 2, 3, 7] (some 1) (.seq (.seq (.ops false [⟨some 16, .mv (.t 7), none⟩, ⟨some 17, .mv (.t 1), none⟩, ⟨some 18, .mv (.t 2), none⟩, ⟨some 19, .bin .add (.t 17) (.t 18), none⟩, ⟨some 20, .bin .lss (.t 16) (.t 19), none⟩])
    (.cond (.t 20) (.skip)
     (.exit 0)))
    (.seq (.block 1 (.seq (.ops true [⟨some 23, .faddr 1 (.t 3), none⟩, ⟨some 24, .load none (.t 23), none⟩, ⟨some 25, .mv (.t 7), none⟩, ⟨some 26, .iaddr 1 (.t 24) (.t 25), none⟩, ⟨some 27, .load none (.t 26), none⟩, ⟨some 28, .faddr 1 (.t 3), none⟩, ⟨some 29, .load none (.t 28), none⟩, ⟨some 30, .mv (.t 1), none⟩, ⟨some 31, .iaddr 1 (.t 29) (.t 30), none⟩, ⟨some 32, .load none (.t 31), none⟩, ⟨some 33, .bin .neq (.t 27) (.t 32), none⟩])
     (.cond (.t 33) (.seq (.ops false [⟨some 6, .mv (.c (.int .i64 0)), none⟩])
      (.ret))
      (.skip))))
    (.ops false [⟨some 21, .mv (.t 7), none⟩, ⟨some 22, .bin .add (.t 21) (.c (.int .i64 1)), none⟩, ⟨some 7, .mv (.t 22), none⟩]))))))
  (.seq (.ops false [⟨some 34, .faddr 1 (.t 3), none⟩, ⟨some 35, .load none (.t 34), none⟩, ⟨some 36, .mv (.t 1), none⟩, ⟨some 37, .iaddr 1 (.t 35) (.t 36), none⟩, ⟨some 38, .load none (.t 37), none⟩, ⟨some 6, .mv (.t 38), none⟩])
  (.ret)))),
  [.t 6]⟩

/- noria/noriaref29.free -/
def d_noriaref29_free : DFun := ⟨
  .seq (.ops false [⟨some 3, .box (.t 0), none⟩, ⟨some 6, .mv (.c (.bool false)), none⟩])
  (.seq (.seq (.ops false [⟨some 8, .mv (.t 1), none⟩, ⟨some 7, .mv (.t 8), none⟩])
  (.block 0 (.loop [1, 2, 3, 7] (some 1) (.seq (.seq (.ops false [⟨some 9, .mv (.t 7), none⟩, ⟨some 10, .mv (.t 1), none⟩, ⟨some 11, .mv (.t 2), none⟩, ⟨some 12, .bin .add (.t 10) (.t 11), none⟩, ⟨some 13, .bin .lss (.t 9) (.t 12), none⟩])
    (.cond (.t 13) (.skip)
     (.exit 0)))
    (.seq (.block 1 (.seq (.ops false [⟨some 16, .mv (.t 7), none⟩, ⟨some 17, .faddr 2 (.t 3), none⟩, ⟨some 18, .load none (.t 17), none⟩, ⟨some 19, .bin .geq (.t 16) (.t 18), none⟩, ⟨some 20, .mv (.t 19), none⟩, ⟨some 21, .mv (.t 7), some (20, true)⟩, ⟨some 22, .faddr 3 (.t 3), some (20, true)⟩, ⟨some 23, .load none (.t 22), some (20, true)⟩, ⟨some 24, .bin .lss (.t 21) (.t 23), some (20, true)⟩, ⟨some 25, .pick (.t 20) (.t 24) (.c (.bool false)), none⟩])
     (.cond (.t 25) (.seq (.ops false [⟨some 6, .mv (.c (.bool false)), none⟩])
      (.ret))
      (.skip))))
    (.ops false [⟨some 14, .mv (.t 7), none⟩, ⟨some 15, .bin .add (.t 14) (.c (.int .i64 1)), none⟩, ⟨some 7, .mv (.t 15), none⟩]))))))
  (.seq (.ops false [⟨some 6, .mv (.c (.bool true)), none⟩])
  (.ret))),
  [.t 6]⟩

/- noria/instr.of -/
def d_instr_of : DFun := ⟨
  .seq (.ops false [⟨some 2, .alloc [.str [], .bool false, .bool false, .bool false, .bool false], none⟩, ⟨some 3, .mv (.c (.bool false)), none⟩])
  (.seq (.seq (.ops false [⟨some 4, .mv (.t 0), none⟩])
  (.block 0 (.seq (.ops false [⟨some 6, .bin .eql (.t 4) (.c (.int .i64 1)), none⟩, ⟨some 5, .mv (.t 6), none⟩])
   (.cond (.t 5) (.seq (.ops false [⟨some 7, .build [.str [], .bool false, .bool false, .bool false, .bool false] [(0, 1, (.c (.str [112, 117, 115, 104]))), (1, 1, (.c (.bool true))), (4, 1, (.c (.bool true)))], none⟩, ⟨none, .store 5 (.t 2) (.t 7), none⟩, ⟨some 3, .mv (.c (.bool true)), none⟩])
    (.ret))
    (.seq (.ops false [⟨some 9, .bin .eql (.t 4) (.c (.int .i64 2)), none⟩, ⟨some 8, .mv (.t 9), none⟩])
    (.cond (.t 8) (.seq (.ops false [⟨some 10, .build [.str [], .bool false, .bool false, .bool false, .bool false] [(0, 1, (.c (.str [108, 111, 97, 100]))), (1, 1, (.c (.bool true)))], none⟩, ⟨none, .store 5 (.t 2) (.t 10), none⟩, ⟨some 3, .mv (.c (.bool true)), none⟩])
     (.ret))
     (.seq (.ops false [⟨some 12, .bin .eql (.t 4) (.c (.int .i64 3)), none⟩, ⟨some 11, .mv (.t 12), none⟩])
     (.cond (.t 11) (.seq (.ops false [⟨some 13, .build [.str [], .bool false, .bool false, .bool false, .bool false] [(0, 1, (.c (.str [115, 116, 111, 114, 101]))), (1, 1, (.c (.bool true)))], none⟩, ⟨none, .store 5 (.t 2) (.t 13), none⟩, ⟨some 3, .mv (.c (.bool true)), none⟩])
      (.ret))
      (.seq (.ops false [⟨some 15, .bin .eql (.t 4) (.c (.int .i64 4)), none⟩, ⟨some 14, .mv (.t 15), none⟩])
      (.cond (.t 14) (.seq (.ops false [⟨some 16, .build [.str [], .bool false, .bool false, .bool false, .bool false] [(0, 1, (.c (.str [117, 110]))), (2, 1, (.c (.bool true)))], none⟩, ⟨none, .store 5 (.t 2) (.t 16), none⟩, ⟨some 3, .mv (.c (.bool true)), none⟩])
       (.ret))
       (.seq (.ops false [⟨some 18, .bin .eql (.t 4) (.c (.int .i64 5)), none⟩, ⟨some 17, .mv (.t 18), none⟩])
       (.cond (.t 17) (.seq (.ops false [⟨some 19, .build [.str [], .bool false, .bool false, .bool false, .bool false] [(0, 1, (.c (.str [98, 105, 110]))), (2, 1, (.c (.bool true)))], none⟩, ⟨none, .store 5 (.t 2) (.t 19), none⟩, ⟨some 3, .mv (.c (.bool true)), none⟩])
        (.ret))
        (.seq (.ops false [⟨some 21, .bin .eql (.t 4) (.c (.int .i64 6)), none⟩, ⟨some 20, .mv (.t 21), none⟩])
        (.cond (.t 20) (.seq (.ops false [⟨some 22, .build [.str [], .bool false, .bool false, .bool false, .bool false] [(0, 1, (.c (.str [106, 117, 109, 112]))), (1, 1, (.c (.bool true)))], none⟩, ⟨none, .store 5 (.t 2) (.t 22), none⟩, ⟨some 3, .mv (.c (.bool true)), none⟩])
         (.ret))
         (.seq (.ops false [⟨some 24, .bin .eql (.t 4) (.c (.int .i64 7)), none⟩, ⟨some 23, .mv (.t 24), none⟩])
         (.cond (.t 23) (.seq (.ops false [⟨some 25, .build [.str [], .bool false, .bool false, .bool false, .bool false] [(0, 1, (.c (.str [122, 101, 114, 111]))), (1, 1, (.c (.bool true)))], none⟩, ⟨none, .store 5 (.t 2) (.t 25), none⟩, ⟨some 3, .mv (.c (.bool true)), none⟩])
          (.ret))
          (.seq (.ops false [⟨some 27, .bin .eql (.t 4) (.c (.int .i64 8)), none⟩, ⟨some 26, .mv (.t 27), none⟩])
          (.cond (.t 26) (.seq (.ops false [⟨some 28, .build [.str [], .bool false, .bool false, .bool false, .bool false] [(0, 1, (.c (.str [103, 101, 116]))), (1, 1, (.c (.bool true))), (3, 1, (.c (.bool true)))], none⟩, ⟨none, .store 5 (.t 2) (.t 28), none⟩, ⟨some 3, .mv (.c (.bool true)), none⟩])
           (.ret))
           (.seq (.ops false [⟨some 30, .bin .eql (.t 4) (.c (.int .i64 9)), none⟩, ⟨some 29, .mv (.t 30), none⟩])
           (.cond (.t 29) (.seq (.ops false [⟨some 31, .build [.str [], .bool false, .bool false, .bool false, .bool false] [(0, 1, (.c (.str [112, 117, 116]))), (1, 1, (.c (.bool true))), (3, 1, (.c (.bool true)))], none⟩, ⟨none, .store 5 (.t 2) (.t 31), none⟩, ⟨some 3, .mv (.c (.bool true)), none⟩])
            (.ret))
            (.seq (.ops false [⟨some 33, .bin .eql (.t 4) (.c (.int .i64 10)), none⟩, ⟨some 32, .mv (.t 33), none⟩])
            (.cond (.t 32) (.seq (.ops false [⟨some 34, .build [.str [], .bool false, .bool false, .bool false, .bool false] [(0, 1, (.c (.str [104, 97, 108, 116])))], none⟩, ⟨none, .store 5 (.t 2) (.t 34), none⟩, ⟨some 3, .mv (.c (.bool true)), none⟩])
             (.ret))
             (.skip)))))))))))))))))))))))
  (.seq (.ops false [⟨some 35, .build [.str [], .bool false, .bool false, .bool false, .bool false] [], none⟩, ⟨none, .store 5 (.t 2) (.t 35), none⟩, ⟨some 3, .mv (.c (.bool false)), none⟩])
  (.ret))),
  [.cell 2 (some 5), .t 3]⟩

/- noria/instr.first -/
def d_instr_first : DFun := ⟨
  .seq (.ops false [⟨some 1, .box (.t 0), none⟩, ⟨some 2, .mv (.c (.bool false)), none⟩])
  (.seq (.seq (.ops false [⟨some 3, .faddr 0 (.t 1), none⟩, ⟨some 4, .load none (.t 3), none⟩])
  (.block 0 (.seq (.ops false [⟨some 6, .bin .eql (.t 4) (.c (.int .i64 1)), none⟩, ⟨some 5, .mv (.t 6), none⟩])
   (.cond (.t 5) (.seq (.ops false [⟨some 7, .faddr 1 (.t 1), none⟩, ⟨some 8, .load none (.t 7), none⟩, ⟨some 9, .callP 59 [(.t 8), (.c (.int .i64 1)), (.c (.int .i64 1000))], none⟩, ⟨some 2, .mv (.t 9), none⟩])
    (.ret))
    (.seq (.ops false [⟨some 11, .bin .eql (.t 4) (.c (.int .i64 4)), none⟩, ⟨some 10, .mv (.t 11), none⟩])
    (.cond (.t 10) (.seq (.ops false [⟨some 12, .faddr 1 (.t 1), none⟩, ⟨some 13, .load none (.t 12), none⟩, ⟨some 14, .bin .eql (.t 13) (.c (.int .i64 1)), none⟩, ⟨some 15, .mv (.t 14), none⟩, ⟨some 16, .faddr 1 (.t 1), some (15, false)⟩, ⟨some 17, .load none (.t 16), some (15, false)⟩, ⟨some 18, .bin .eql (.t 17) (.c (.int .i64 2)), some (15, false)⟩, ⟨some 19, .pick (.t 15) (.c (.bool true)) (.t 18), none⟩, ⟨some 2, .mv (.t 19), none⟩])
     (.ret))
     (.seq (.ops false [⟨some 21, .bin .eql (.t 4) (.c (.int .i64 5)), none⟩, ⟨some 20, .mv (.t 21), none⟩])
     (.cond (.t 20) (.seq (.ops false [⟨some 22, .faddr 1 (.t 1), none⟩, ⟨some 23, .load none (.t 22), none⟩, ⟨some 24, .callP 59 [(.t 23), (.c (.int .i64 3)), (.c (.int .i64 16))], none⟩, ⟨some 2, .mv (.t 24), none⟩])
      (.ret))
      (.seq (.ops false [⟨some 26, .bin .eql (.t 4) (.c (.int .i64 10)), none⟩, ⟨some 25, .mv (.t 26), none⟩])
      (.cond (.t 25) (.seq (.ops false [⟨some 27, .faddr 1 (.t 1), none⟩, ⟨some 28, .load none (.t 27), none⟩, ⟨some 29, .bin .eql (.t 28) (.c (.int .i64 0)), none⟩, ⟨some 2, .mv (.t 29), none⟩])
       (.ret))
       (.skip)))))))))))
  (.seq (.ops false [⟨some 30, .faddr 1 (.t 1), none⟩, ⟨some 31, .load none (.t 30), none⟩, ⟨some 32, .callP 59 [(.t 31), (.c (.int .i64 0)), (.c (.int .i64 65535))], none⟩, ⟨some 2, .mv (.t 32), none⟩])
  (.ret))),
  [.t 2]⟩

/- noria/instr.within -/
def d_instr_within : DFun := ⟨
  .seq (.ops false [⟨some 6, .mv (.c (.bool false)), none⟩])
  (.seq (.ops false [⟨some 7, .mv (.t 0), none⟩, ⟨some 8, .mv (.t 1), none⟩, ⟨some 9, .bin .geq (.t 7) (.t 8), none⟩, ⟨some 10, .mv (.t 9), none⟩, ⟨some 11, .mv (.t 0), some (10, true)⟩, ⟨some 12, .mv (.t 2), some (10, true)⟩, ⟨some 13, .bin .leq (.t 11) (.t 12), some (10, true)⟩, ⟨some 14, .pick (.t 10) (.t 13) (.c (.bool false)), none⟩, ⟨some 6, .mv (.t 14), none⟩])
  (.ret)),
  [.t 6]⟩

/- (*noria/vm.machine).there -/
def d_vm_machine_there : DFun := ⟨
  .seq (.ops false [⟨some 6, .mv (.c (.bool false)), none⟩])
  (.seq (.ops false [⟨some 7, .mv (.t 1), none⟩, ⟨some 8, .mv (.t 0), none⟩, ⟨some 9, .nilck (.t 8), none⟩, ⟨some 10, .faddr 0 (.t 9), none⟩, ⟨some 11, .load none (.t 10), none⟩, ⟨some 12, .len (.t 11), none⟩, ⟨some 13, .mv (.t 2), none⟩, ⟨some 14, .bin .sub (.t 12) (.t 13), none⟩, ⟨some 15, .bin .leq (.t 7) (.t 14), none⟩, ⟨some 6, .mv (.t 15), none⟩])
  (.ret)),
  [.t 6]⟩

/- noria/arith.Un -/
def d_arith_Un : DFun := ⟨
  .seq (.ops false [⟨some 4, .mv (.c (.int .i64 0)), none⟩, ⟨some 5, .mv (.c (.int .i64 0)), none⟩])
  (.seq (.seq (.ops false [⟨some 6, .mv (.t 0), none⟩])
  (.block 0 (.seq (.ops false [⟨some 8, .bin .eql (.t 6) (.c (.int .i64 1)), none⟩, ⟨some 7, .mv (.t 8), none⟩])
   (.cond (.t 7) (.seq (.ops false [⟨some 9, .mv (.t 1), none⟩, ⟨some 10, .un .neg (.t 9), none⟩, ⟨some 4, .mv (.t 10), none⟩, ⟨some 5, .mv (.c (.int .i64 0)), none⟩])
    (.ret))
    (.seq (.ops false [⟨some 12, .bin .eql (.t 6) (.c (.int .i64 2)), none⟩, ⟨some 11, .mv (.t 12), none⟩])
    (.cond (.t 11) (.seq (.ops false [⟨some 13, .mv (.t 1), none⟩, ⟨some 14, .bin .eql (.t 13) (.c (.int .i64 0)), none⟩, ⟨some 15, .callP 65 [(.t 14)], none⟩, ⟨some 4, .mv (.t 15), none⟩, ⟨some 5, .mv (.c (.int .i64 0)), none⟩])
     (.ret))
     (.skip)))))))
  (.seq (.ops false [⟨some 4, .mv (.c (.int .i64 0)), none⟩, ⟨some 5, .mv (.c (.int .i64 1)), none⟩])
  (.ret))),
  [.t 4, .t 5]⟩

/- noria/arith.Bin -/
def d_arith_Bin : DFun := ⟨
  .seq (.ops false [⟨some 6, .mv (.c (.int .i64 0)), none⟩, ⟨some 7, .mv (.c (.int .i64 0)), none⟩])
  (.seq (.seq (.ops false [⟨some 8, .mv (.t 0), none⟩, ⟨some 9, .callP 66 [(.t 8)], none⟩])
  (.block 0 (.seq (.ops false [⟨some 11, .bin .eql (.t 9) (.c (.int .i64 0)), none⟩, ⟨some 10, .mv (.t 11), none⟩])
   (.cond (.t 10) (.seq (.ops false [⟨some 6, .mv (.c (.int .i64 0)), none⟩, ⟨some 7, .mv (.c (.int .i64 1)), none⟩])
    (.ret))
    (.seq (.ops false [⟨some 13, .bin .eql (.t 9) (.c (.int .i64 1)), none⟩, ⟨some 12, .mv (.t 13), none⟩])
    (.cond (.t 12) (.seq (.ops false [⟨some 14, .mv (.t 0), none⟩, ⟨some 15, .mv (.t 1), none⟩, ⟨some 16, .mv (.t 2), none⟩, ⟨some 17, .callP 67 [(.t 14), (.t 15), (.t 16)], none⟩, ⟨some 18, .extract 0 (.t 17), none⟩, ⟨some 19, .extract 1 (.t 17), none⟩, ⟨some 6, .mv (.t 18), none⟩, ⟨some 7, .mv (.t 19), none⟩])
     (.ret))
     (.skip)))))))
  (.seq (.ops false [⟨some 20, .mv (.t 0), none⟩, ⟨some 21, .mv (.t 1), none⟩, ⟨some 22, .mv (.t 2), none⟩, ⟨some 23, .callP 68 [(.t 20), (.t 21), (.t 22)], none⟩, ⟨some 24, .callP 65 [(.t 23)], none⟩, ⟨some 6, .mv (.t 24), none⟩, ⟨some 7, .mv (.c (.int .i64 0)), none⟩])
  (.ret))),
  [.t 6, .t 7]⟩

/- noria/noriaref07.truth -/
def d_noriaref07_truth : DFun := ⟨
  .seq (.ops false [⟨some 2, .mv (.c (.int .i64 0)), none⟩])
  (.seq (.seq (.ops false [⟨some 3, .mv (.t 0), none⟩])
  (.cond (.t 3) (.seq (.ops false [⟨some 2, .mv (.c (.int .i64 1)), none⟩])
   (.ret))
   (.skip)))
  (.seq (.ops false [⟨some 2, .mv (.c (.int .i64 0)), none⟩])
  (.ret))),
  [.t 2]⟩

/- noria/noriaref07.number -/
def d_noriaref07_number : DFun := ⟨
  .seq (.ops false [⟨some 6, .mv (.c (.int .i64 0)), none⟩, ⟨some 7, .mv (.c (.int .i64 0)), none⟩])
  (.seq (.seq (.ops false [⟨some 9, .mv (.t 0), none⟩])
  (.block 0 (.seq (.ops false [⟨some 11, .bin .eql (.t 9) (.c (.int .i64 3)), none⟩, ⟨some 10, .mv (.t 11), none⟩])
   (.cond (.t 10) (.seq (.ops false [⟨some 12, .mv (.t 1), none⟩, ⟨some 13, .conv .u64 (.t 12), none⟩, ⟨some 14, .mv (.t 2), none⟩, ⟨some 15, .conv .u64 (.t 14), none⟩, ⟨some 16, .bin .add (.t 13) (.t 15), none⟩, ⟨some 17, .conv .i64 (.t 16), none⟩, ⟨some 6, .mv (.t 17), none⟩, ⟨some 7, .mv (.c (.int .i64 0)), none⟩])
    (.ret))
    (.seq (.ops false [⟨some 19, .bin .eql (.t 9) (.c (.int .i64 4)), none⟩, ⟨some 18, .mv (.t 19), none⟩])
    (.cond (.t 18) (.seq (.ops false [⟨some 20, .mv (.t 1), none⟩, ⟨some 21, .conv .u64 (.t 20), none⟩, ⟨some 22, .mv (.t 2), none⟩, ⟨some 23, .conv .u64 (.t 22), none⟩, ⟨some 24, .bin .sub (.t 21) (.t 23), none⟩, ⟨some 25, .conv .i64 (.t 24), none⟩, ⟨some 6, .mv (.t 25), none⟩, ⟨some 7, .mv (.c (.int .i64 0)), none⟩])
     (.ret))
     (.seq (.ops false [⟨some 27, .bin .eql (.t 9) (.c (.int .i64 5)), none⟩, ⟨some 26, .mv (.t 27), none⟩])
     (.cond (.t 26) (.seq (.ops false [⟨some 28, .mv (.t 1), none⟩, ⟨some 29, .conv .u64 (.t 28), none⟩, ⟨some 30, .mv (.t 2), none⟩, ⟨some 31, .conv .u64 (.t 30), none⟩, ⟨some 32, .bin .mul (.t 29) (.t 31), none⟩, ⟨some 33, .conv .i64 (.t 32), none⟩, ⟨some 6, .mv (.t 33), none⟩, ⟨some 7, .mv (.c (.int .i64 0)), none⟩])
      (.ret))
      (.skip)))))))))
  (.seq (.seq (.ops false [⟨some 34, .mv (.t 2), none⟩, ⟨some 35, .bin .eql (.t 34) (.c (.int .i64 0)), none⟩])
  (.cond (.t 35) (.seq (.ops false [⟨some 6, .mv (.c (.int .i64 0)), none⟩, ⟨some 7, .mv (.c (.int .i64 15)), none⟩])
   (.ret))
   (.skip)))
  (.seq (.ops false [⟨some 36, .mv (.t 1), none⟩, ⟨some 37, .mv (.t 2), none⟩, ⟨some 38, .callP 69 [(.t 36), (.t 37)], none⟩, ⟨some 8, .mv (.t 38), none⟩])
  (.seq (.seq (.ops false [⟨some 39, .mv (.t 0), none⟩, ⟨some 40, .bin .eql (.t 39) (.c (.int .i64 6)), none⟩])
  (.cond (.t 40) (.seq (.ops false [⟨some 41, .mv (.t 8), none⟩, ⟨some 6, .mv (.t 41), none⟩, ⟨some 7, .mv (.c (.int .i64 0)), none⟩])
   (.ret))
   (.skip)))
  (.seq (.ops false [⟨some 42, .mv (.t 1), none⟩, ⟨some 43, .conv .u64 (.t 42), none⟩, ⟨some 44, .mv (.t 2), none⟩, ⟨some 45, .conv .u64 (.t 44), none⟩, ⟨some 46, .mv (.t 8), none⟩, ⟨some 47, .conv .u64 (.t 46), none⟩, ⟨some 48, .bin .mul (.t 45) (.t 47), none⟩, ⟨some 49, .bin .sub (.t 43) (.t 48), none⟩, ⟨some 50, .conv .i64 (.t 49), none⟩, ⟨some 6, .mv (.t 50), none⟩, ⟨some 7, .mv (.c (.int .i64 0)), none⟩])
  (.ret)))))),
  [.t 6, .t 7]⟩

/- noria/arith.truth -/
def d_arith_truth : DFun := ⟨
  .seq (.ops false [⟨some 2, .mv (.c (.int .i64 0)), none⟩])
  (.seq (.seq (.ops false [⟨some 3, .mv (.t 0), none⟩])
  (.cond (.t 3) (.seq (.ops false [⟨some 2, .mv (.c (.int .i64 1)), none⟩])
   (.ret))
   (.skip)))
  (.seq (.ops false [⟨some 2, .mv (.c (.int .i64 0)), none⟩])
  (.ret))),
  [.t 2]⟩

/- noria/arith.group -/
def d_arith_group : DFun := ⟨
  .seq (.ops false [⟨some 2, .mv (.c (.int .i64 0)), none⟩])
  (.seq (.ops false [⟨some 3, .mv (.c (.int .i64 0)), none⟩])
  (.seq (.seq (.ops false [⟨some 4, .mv (.t 0), none⟩])
  (.block 0 (.seq (.block 6 (.block 5 (.seq (.block 4 (.seq (.block 3 (.seq (.block 2 (.block 1 (.seq (.seq (.seq (.seq (.ops false [⟨some 6, .bin .eql (.t 4) (.c (.int .i64 3)), none⟩, ⟨some 5, .mv (.t 6), none⟩])
         (.cond (.t 5) (.skip)
          (.seq (.ops false [⟨some 7, .bin .eql (.t 4) (.c (.int .i64 4)), none⟩, ⟨some 5, .mv (.t 7), none⟩])
          (.cond (.t 5) (.skip)
           (.ops false [⟨some 8, .bin .eql (.t 4) (.c (.int .i64 5)), none⟩, ⟨some 5, .mv (.t 8), none⟩])))))
         (.cond (.t 5) (.exit 1)
          (.skip)))
         (.seq (.seq (.seq (.ops false [⟨some 10, .bin .eql (.t 4) (.c (.int .i64 6)), none⟩, ⟨some 9, .mv (.t 10), none⟩])
         (.cond (.t 9) (.skip)
          (.ops false [⟨some 11, .bin .eql (.t 4) (.c (.int .i64 7)), none⟩, ⟨some 9, .mv (.t 11), none⟩])))
         (.cond (.t 9) (.exit 2)
          (.skip)))
         (.seq (.seq (.seq (.ops false [⟨some 13, .bin .eql (.t 4) (.c (.int .i64 8)), none⟩, ⟨some 12, .mv (.t 13), none⟩])
         (.cond (.t 12) (.skip)
          (.seq (.ops false [⟨some 14, .bin .eql (.t 4) (.c (.int .i64 9)), none⟩, ⟨some 12, .mv (.t 14), none⟩])
          (.cond (.t 12) (.skip)
           (.ops false [⟨some 15, .bin .eql (.t 4) (.c (.int .i64 10)), none⟩, ⟨some 12, .mv (.t 15), none⟩])))))
         (.cond (.t 12) (.exit 3)
          (.skip)))
         (.seq (.seq (.seq (.ops false [⟨some 17, .bin .eql (.t 4) (.c (.int .i64 11)), none⟩, ⟨some 16, .mv (.t 17), none⟩])
         (.cond (.t 16) (.skip)
          (.ops false [⟨some 18, .bin .eql (.t 4) (.c (.int .i64 12)), none⟩, ⟨some 16, .mv (.t 18), none⟩])))
         (.cond (.t 16) (.exit 4)
          (.skip)))
         (.seq (.seq (.seq (.ops false [⟨some 20, .bin .eql (.t 4) (.c (.int .i64 13)), none⟩, ⟨some 19, .mv (.t 20), none⟩])
         (.cond (.t 19) (.skip)
          (.ops false [⟨some 21, .bin .eql (.t 4) (.c (.int .i64 14)), none⟩, ⟨some 19, .mv (.t 21), none⟩])))
         (.cond (.t 19) (.exit 5)
          (.skip)))
         (.seq (.seq (.ops false [⟨some 23, .bin .eql (.t 4) (.c (.int .i64 15)), none⟩, ⟨some 22, .mv (.t 23), none⟩])
         (.cond (.t 22) (.skip)
          (.ops false [⟨some 24, .bin .eql (.t 4) (.c (.int .i64 16)), none⟩, ⟨some 22, .mv (.t 24), none⟩])))
         (.cond (.t 22) (.exit 6)
          (.skip))))))))
         (.exit 0))))
       (.seq (.ops false [⟨some 3, .mv (.c (.int .i64 1)), none⟩])
       (.exit 0))))
      (.seq (.ops false [⟨some 3, .mv (.c (.int .i64 2)), none⟩])
      (.exit 0))))
     (.seq (.ops false [⟨some 3, .mv (.c (.int .i64 4)), none⟩])
     (.exit 0)))))
   (.seq (.ops false [⟨some 3, .mv (.c (.int .i64 3)), none⟩])
   (.exit 0)))))
  (.seq (.ops false [⟨some 25, .mv (.t 3), none⟩, ⟨some 2, .mv (.t 25), none⟩])
  (.ret)))),
  [.t 2]⟩

/- noria/arith.number -/
def d_arith_number : DFun := ⟨
  .seq (.ops false [⟨some 6, .mv (.c (.int .i64 0)), none⟩, ⟨some 7, .mv (.c (.int .i64 0)), none⟩])
  (.seq (.seq (.ops false [⟨some 10, .mv (.t 0), none⟩])
  (.block 0 (.seq (.ops false [⟨some 12, .bin .eql (.t 10) (.c (.int .i64 3)), none⟩, ⟨some 11, .mv (.t 12), none⟩])
   (.cond (.t 11) (.seq (.ops false [⟨some 13, .mv (.t 1), none⟩, ⟨some 14, .mv (.t 2), none⟩, ⟨some 15, .bin .add (.t 13) (.t 14), none⟩, ⟨some 6, .mv (.t 15), none⟩, ⟨some 7, .mv (.c (.int .i64 0)), none⟩])
    (.ret))
    (.seq (.ops false [⟨some 17, .bin .eql (.t 10) (.c (.int .i64 4)), none⟩, ⟨some 16, .mv (.t 17), none⟩])
    (.cond (.t 16) (.seq (.ops false [⟨some 18, .mv (.t 1), none⟩, ⟨some 19, .mv (.t 2), none⟩, ⟨some 20, .bin .sub (.t 18) (.t 19), none⟩, ⟨some 6, .mv (.t 20), none⟩, ⟨some 7, .mv (.c (.int .i64 0)), none⟩])
     (.ret))
     (.seq (.ops false [⟨some 22, .bin .eql (.t 10) (.c (.int .i64 5)), none⟩, ⟨some 21, .mv (.t 22), none⟩])
     (.cond (.t 21) (.seq (.ops false [⟨some 23, .mv (.t 1), none⟩, ⟨some 24, .mv (.t 2), none⟩, ⟨some 25, .bin .mul (.t 23) (.t 24), none⟩, ⟨some 6, .mv (.t 25), none⟩, ⟨some 7, .mv (.c (.int .i64 0)), none⟩])
      (.ret))
      (.skip)))))))))
  (.seq (.seq (.ops false [⟨some 26, .mv (.t 2), none⟩, ⟨some 27, .bin .eql (.t 26) (.c (.int .i64 0)), none⟩])
  (.cond (.t 27) (.seq (.ops false [⟨some 6, .mv (.c (.int .i64 0)), none⟩, ⟨some 7, .mv (.c (.int .i64 15)), none⟩])
   (.ret))
   (.skip)))
  (.seq (.ops false [⟨some 29, .mv (.t 1), none⟩, ⟨some 30, .mv (.t 2), none⟩, ⟨some 31, .callP 70 [(.t 29), (.t 30)], none⟩, ⟨some 28, .mv (.t 31), none⟩, ⟨some 32, .extract 0 (.t 28), none⟩, ⟨some 33, .extract 1 (.t 28), none⟩, ⟨some 8, .mv (.t 32), none⟩, ⟨some 9, .mv (.t 33), none⟩])
  (.seq (.seq (.ops false [⟨some 34, .mv (.t 0), none⟩, ⟨some 35, .bin .eql (.t 34) (.c (.int .i64 6)), none⟩])
  (.cond (.t 35) (.seq (.ops false [⟨some 36, .mv (.t 8), none⟩, ⟨some 6, .mv (.t 36), none⟩, ⟨some 7, .mv (.c (.int .i64 0)), none⟩])
   (.ret))
   (.skip)))
  (.seq (.ops false [⟨some 37, .mv (.t 9), none⟩, ⟨some 6, .mv (.t 37), none⟩, ⟨some 7, .mv (.c (.int .i64 0)), none⟩])
  (.ret)))))),
  [.t 6, .t 7]⟩

/- noria/arith.holds -/
def d_arith_holds : DFun := ⟨
  .seq (.ops false [⟨some 6, .mv (.c (.bool false)), none⟩])
  (.seq (.seq (.ops false [⟨some 7, .mv (.t 0), none⟩])
  (.block 0 (.seq (.ops false [⟨some 9, .bin .eql (.t 7) (.c (.int .i64 8)), none⟩, ⟨some 8, .mv (.t 9), none⟩])
   (.cond (.t 8) (.seq (.ops false [⟨some 10, .mv (.t 1), none⟩, ⟨some 11, .bin .neq (.t 10) (.c (.int .i64 0)), none⟩, ⟨some 12, .mv (.t 11), none⟩, ⟨some 13, .mv (.t 2), some (12, true)⟩, ⟨some 14, .bin .neq (.t 13) (.c (.int .i64 0)), some (12, true)⟩, ⟨some 15, .pick (.t 12) (.t 14) (.c (.bool false)), none⟩, ⟨some 6, .mv (.t 15), none⟩])
    (.ret))
    (.seq (.ops false [⟨some 17, .bin .eql (.t 7) (.c (.int .i64 9)), none⟩, ⟨some 16, .mv (.t 17), none⟩])
    (.cond (.t 16) (.seq (.ops false [⟨some 18, .mv (.t 1), none⟩, ⟨some 19, .bin .neq (.t 18) (.c (.int .i64 0)), none⟩, ⟨some 20, .mv (.t 19), none⟩, ⟨some 21, .mv (.t 2), some (20, false)⟩, ⟨some 22, .bin .neq (.t 21) (.c (.int .i64 0)), some (20, false)⟩, ⟨some 23, .pick (.t 20) (.c (.bool true)) (.t 22), none⟩, ⟨some 6, .mv (.t 23), none⟩])
     (.ret))
     (.seq (.ops false [⟨some 25, .bin .eql (.t 7) (.c (.int .i64 10)), none⟩, ⟨some 24, .mv (.t 25), none⟩])
     (.cond (.t 24) (.seq (.ops false [⟨some 26, .mv (.t 1), none⟩, ⟨some 27, .bin .neq (.t 26) (.c (.int .i64 0)), none⟩, ⟨some 28, .mv (.t 2), none⟩, ⟨some 29, .bin .neq (.t 28) (.c (.int .i64 0)), none⟩, ⟨some 30, .beq true (.t 27) (.t 29), none⟩, ⟨some 6, .mv (.t 30), none⟩])
      (.ret))
      (.seq (.ops false [⟨some 32, .bin .eql (.t 7) (.c (.int .i64 11)), none⟩, ⟨some 31, .mv (.t 32), none⟩])
      (.cond (.t 31) (.seq (.ops false [⟨some 33, .mv (.t 1), none⟩, ⟨some 34, .mv (.t 2), none⟩, ⟨some 35, .bin .eql (.t 33) (.t 34), none⟩, ⟨some 6, .mv (.t 35), none⟩])
       (.ret))
       (.seq (.ops false [⟨some 37, .bin .eql (.t 7) (.c (.int .i64 12)), none⟩, ⟨some 36, .mv (.t 37), none⟩])
       (.cond (.t 36) (.seq (.ops false [⟨some 38, .mv (.t 1), none⟩, ⟨some 39, .mv (.t 2), none⟩, ⟨some 40, .bin .neq (.t 38) (.t 39), none⟩, ⟨some 6, .mv (.t 40), none⟩])
        (.ret))
        (.seq (.ops false [⟨some 42, .bin .eql (.t 7) (.c (.int .i64 13)), none⟩, ⟨some 41, .mv (.t 42), none⟩])
        (.cond (.t 41) (.seq (.ops false [⟨some 43, .mv (.t 1), none⟩, ⟨some 44, .mv (.t 2), none⟩, ⟨some 45, .bin .lss (.t 43) (.t 44), none⟩, ⟨some 6, .mv (.t 45), none⟩])
         (.ret))
         (.seq (.ops false [⟨some 47, .bin .eql (.t 7) (.c (.int .i64 14)), none⟩, ⟨some 46, .mv (.t 47), none⟩])
         (.cond (.t 46) (.seq (.ops false [⟨some 48, .mv (.t 1), none⟩, ⟨some 49, .mv (.t 2), none⟩, ⟨some 50, .bin .leq (.t 48) (.t 49), none⟩, ⟨some 6, .mv (.t 50), none⟩])
          (.ret))
          (.seq (.ops false [⟨some 52, .bin .eql (.t 7) (.c (.int .i64 15)), none⟩, ⟨some 51, .mv (.t 52), none⟩])
          (.cond (.t 51) (.seq (.ops false [⟨some 53, .mv (.t 1), none⟩, ⟨some 54, .mv (.t 2), none⟩, ⟨some 55, .bin .gtr (.t 53) (.t 54), none⟩, ⟨some 6, .mv (.t 55), none⟩])
           (.ret))
           (.skip)))))))))))))))))))
  (.seq (.ops false [⟨some 56, .mv (.t 1), none⟩, ⟨some 57, .mv (.t 2), none⟩, ⟨some 58, .bin .geq (.t 56) (.t 57), none⟩, ⟨some 6, .mv (.t 58), none⟩])
  (.ret))),
  [.t 6]⟩

/- noria/noriaref07.quotient -/
def d_noriaref07_quotient : DFun := ⟨
  .seq (.ops false [⟨some 4, .mv (.c (.int .i64 0)), none⟩])
  (.seq (.ops false [⟨some 6, .mv (.t 0), none⟩, ⟨some 7, .callP 71 [(.t 6)], none⟩, ⟨some 8, .mv (.t 1), none⟩, ⟨some 9, .callP 71 [(.t 8)], none⟩, ⟨some 10, .bin .quo (.t 7) (.t 9), none⟩, ⟨some 5, .mv (.t 10), none⟩])
  (.seq (.seq (.ops false [⟨some 11, .mv (.t 0), none⟩, ⟨some 12, .bin .lss (.t 11) (.c (.int .i64 0)), none⟩, ⟨some 13, .mv (.t 1), none⟩, ⟨some 14, .bin .lss (.t 13) (.c (.int .i64 0)), none⟩, ⟨some 15, .beq true (.t 12) (.t 14), none⟩])
  (.cond (.t 15) (.ops false [⟨some 16, .mv (.t 5), none⟩, ⟨some 17, .bin .sub (.c (.int .u64 0)) (.t 16), none⟩, ⟨some 5, .mv (.t 17), none⟩])
   (.skip)))
  (.seq (.ops false [⟨some 18, .mv (.t 5), none⟩, ⟨some 19, .conv .i64 (.t 18), none⟩, ⟨some 4, .mv (.t 19), none⟩])
  (.ret)))),
  [.t 4]⟩

/- noria/arith.divided -/
def d_arith_divided : DFun := ⟨
  .seq (.ops false [⟨some 4, .mv (.c (.int .i64 0)), none⟩, ⟨some 5, .mv (.c (.int .i64 0)), none⟩])
  (.seq (.seq (.ops false [⟨some 6, .mv (.t 1), none⟩, ⟨some 7, .bin .eql (.t 6) (.c (.int .i64 (-1))), none⟩])
  (.cond (.t 7) (.seq (.ops false [⟨some 8, .mv (.t 0), none⟩, ⟨some 9, .un .neg (.t 8), none⟩, ⟨some 4, .mv (.t 9), none⟩, ⟨some 5, .mv (.c (.int .i64 0)), none⟩])
   (.ret))
   (.skip)))
  (.seq (.ops true [⟨some 10, .mv (.t 0), none⟩, ⟨some 11, .mv (.t 1), none⟩, ⟨some 12, .bin .quo (.t 10) (.t 11), none⟩, ⟨some 13, .mv (.t 0), none⟩, ⟨some 14, .mv (.t 1), none⟩, ⟨some 15, .bin .rem (.t 13) (.t 14), none⟩, ⟨some 4, .mv (.t 12), none⟩, ⟨some 5, .mv (.t 15), none⟩])
  (.ret))),
  [.t 4, .t 5]⟩

/- noria/noriaref07.size -/
def d_noriaref07_size : DFun := ⟨
  .seq (.ops false [⟨some 2, .mv (.c (.int .u64 0)), none⟩])
  (.seq (.seq (.ops false [⟨some 3, .mv (.t 0), none⟩, ⟨some 4, .bin .lss (.t 3) (.c (.int .i64 0)), none⟩])
  (.cond (.t 4) (.seq (.ops false [⟨some 5, .mv (.t 0), none⟩, ⟨some 6, .conv .u64 (.t 5), none⟩, ⟨some 7, .bin .sub (.c (.int .u64 0)) (.t 6), none⟩, ⟨some 2, .mv (.t 7), none⟩])
   (.ret))
   (.skip)))
  (.seq (.ops false [⟨some 8, .mv (.t 0), none⟩, ⟨some 9, .conv .u64 (.t 8), none⟩, ⟨some 2, .mv (.t 9), none⟩])
  (.ret))),
  [.t 2]⟩

end Go.Proofs.Ytplbaapaboonmaa
