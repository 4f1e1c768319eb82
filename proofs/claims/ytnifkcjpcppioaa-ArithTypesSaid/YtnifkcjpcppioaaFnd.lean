/- The data-level reading of the functions. -/
import Derived.Test.YtnifkcjpcppioaaNkZ
set_option linter.unusedSimpArgs false
set_option linter.unusedVariables false
namespace Go.Proofs.Ytnifkcjpcppioaa
open Go.Nk

/- noria/norialaw07.ArithDoes -/
def d_norialaw07_ArithDoes : DFun := ⟨
  .seq (.ops false [⟨some 6, .mv (.c (.bool false)), none⟩])
  (.seq (.ops false [⟨some 16, .mv (.t 0), none⟩, ⟨some 17, .mv (.t 1), none⟩, ⟨some 18, .callP 6 [(.t 16), (.t 17)], none⟩, ⟨some 15, .mv (.t 18), none⟩, ⟨some 19, .extract 0 (.t 15), none⟩, ⟨some 20, .extract 1 (.t 15), none⟩, ⟨some 7, .mv (.t 19), none⟩, ⟨some 8, .mv (.t 20), none⟩])
  (.seq (.ops false [⟨some 22, .mv (.t 0), none⟩, ⟨some 23, .mv (.t 1), none⟩, ⟨some 24, .callP 7 [(.t 22), (.t 23)], none⟩, ⟨some 21, .mv (.t 24), none⟩, ⟨some 25, .extract 0 (.t 21), none⟩, ⟨some 26, .extract 1 (.t 21), none⟩, ⟨some 9, .mv (.t 25), none⟩, ⟨some 10, .mv (.t 26), none⟩])
  (.seq (.ops false [⟨some 28, .mv (.t 0), none⟩, ⟨some 29, .mv (.t 1), none⟩, ⟨some 30, .mv (.t 2), none⟩, ⟨some 31, .callP 8 [(.t 28), (.t 29), (.t 30)], none⟩, ⟨some 27, .mv (.t 31), none⟩, ⟨some 32, .extract 0 (.t 27), none⟩, ⟨some 33, .extract 1 (.t 27), none⟩, ⟨some 11, .mv (.t 32), none⟩, ⟨some 12, .mv (.t 33), none⟩])
  (.seq (.ops false [⟨some 35, .mv (.t 0), none⟩, ⟨some 36, .mv (.t 1), none⟩, ⟨some 37, .mv (.t 2), none⟩, ⟨some 38, .callP 9 [(.t 35), (.t 36), (.t 37)], none⟩, ⟨some 34, .mv (.t 38), none⟩, ⟨some 39, .extract 0 (.t 34), none⟩, ⟨some 40, .extract 1 (.t 34), none⟩, ⟨some 13, .mv (.t 39), none⟩, ⟨some 14, .mv (.t 40), none⟩])
  (.seq (.ops false [⟨some 41, .mv (.t 7), none⟩, ⟨some 42, .mv (.t 9), none⟩, ⟨some 43, .bin .eql (.t 41) (.t 42), none⟩, ⟨some 44, .mv (.t 43), none⟩, ⟨some 45, .mv (.t 8), some (44, true)⟩, ⟨some 46, .callP 10 [(.t 45)], some (44, true)⟩, ⟨some 47, .mv (.t 10), some (44, true)⟩, ⟨some 48, .bin .eql (.t 46) (.t 47), some (44, true)⟩, ⟨some 49, .pick (.t 44) (.t 48) (.c (.bool false)), none⟩, ⟨some 50, .mv (.t 49), none⟩, ⟨some 51, .mv (.t 11), some (50, true)⟩, ⟨some 52, .mv (.t 13), some (50, true)⟩, ⟨some 53, .bin .eql (.t 51) (.t 52), some (50, true)⟩, ⟨some 54, .pick (.t 50) (.t 53) (.c (.bool false)), none⟩, ⟨some 55, .mv (.t 54), none⟩, ⟨some 56, .mv (.t 12), some (55, true)⟩, ⟨some 57, .callP 10 [(.t 56)], some (55, true)⟩, ⟨some 58, .mv (.t 14), some (55, true)⟩, ⟨some 59, .bin .eql (.t 57) (.t 58), some (55, true)⟩, ⟨some 60, .pick (.t 55) (.t 59) (.c (.bool false)), none⟩, ⟨some 61, .mv (.t 60), none⟩, ⟨some 62, .callP 11 [], some (61, true)⟩, ⟨some 63, .pick (.t 61) (.t 62) (.c (.bool false)), none⟩, ⟨some 6, .mv (.t 63), none⟩])
  (.ret)))))),
  [.t 6]⟩

/- noria/norialaw07.ArithTurns -/
def d_norialaw07_ArithTurns : DFun := ⟨
  .seq (.ops false [⟨some 4, .mv (.c (.bool false)), none⟩])
  (.seq (.seq (.ops false [⟨some 27, .bslice true [.int .i64 0] [(some (.c (.int .i64 3))), (some (.c (.int .i64 5))), (some (.c (.int .i64 8))), (some (.c (.int .i64 9))), (some (.c (.int .i64 10))), (some (.c (.int .i64 11))), (some (.c (.int .i64 12)))], none⟩, ⟨some 28, .len (.t 27), none⟩, ⟨some 29, .mv (.c (.int .i64 0)), none⟩])
  (.block 0 (.loop [0, 1, 27, 28, 29] (some 0) (.seq (.ops false [⟨some 30, .bin .lss (.t 29) (.t 28), none⟩])
    (.seq (.cond (.t 30) (.skip)
     (.exit 0))
    (.seq (.block 1 (.seq (.ops false [⟨some 31, .iaddr 1 (.t 27) (.t 29), none⟩, ⟨some 32, .load none (.t 31), none⟩, ⟨some 6, .mv (.t 32), none⟩])
     (.seq (.ops false [⟨some 34, .mv (.t 6), none⟩, ⟨some 35, .mv (.t 0), none⟩, ⟨some 36, .mv (.t 1), none⟩, ⟨some 37, .callP 8 [(.t 34), (.t 35), (.t 36)], none⟩, ⟨some 33, .mv (.t 37), none⟩, ⟨some 38, .extract 0 (.t 33), none⟩, ⟨some 39, .extract 1 (.t 33), none⟩, ⟨some 7, .mv (.t 38), none⟩, ⟨some 8, .mv (.t 39), none⟩])
     (.seq (.ops false [⟨some 41, .mv (.t 6), none⟩, ⟨some 42, .mv (.t 1), none⟩, ⟨some 43, .mv (.t 0), none⟩, ⟨some 44, .callP 8 [(.t 41), (.t 42), (.t 43)], none⟩, ⟨some 40, .mv (.t 44), none⟩, ⟨some 45, .extract 0 (.t 40), none⟩, ⟨some 46, .extract 1 (.t 40), none⟩, ⟨some 9, .mv (.t 45), none⟩, ⟨some 10, .mv (.t 46), none⟩])
     (.seq (.ops false [⟨some 47, .mv (.t 7), none⟩, ⟨some 48, .mv (.t 9), none⟩, ⟨some 49, .bin .neq (.t 47) (.t 48), none⟩, ⟨some 50, .mv (.t 49), none⟩, ⟨some 51, .mv (.t 8), some (50, false)⟩, ⟨some 52, .callP 10 [(.t 51)], some (50, false)⟩, ⟨some 53, .bin .neq (.t 52) (.c (.int .i64 0)), some (50, false)⟩, ⟨some 54, .pick (.t 50) (.c (.bool true)) (.t 53), none⟩, ⟨some 55, .mv (.t 54), none⟩, ⟨some 56, .mv (.t 10), some (55, false)⟩, ⟨some 57, .callP 10 [(.t 56)], some (55, false)⟩, ⟨some 58, .bin .neq (.t 57) (.c (.int .i64 0)), some (55, false)⟩, ⟨some 59, .pick (.t 55) (.c (.bool true)) (.t 58), none⟩])
     (.cond (.t 59) (.seq (.ops false [⟨some 4, .mv (.c (.bool false)), none⟩])
      (.ret))
      (.skip)))))))
    (.ops false [⟨some 60, .bin .add (.t 29) (.c (.int .i64 1)), none⟩, ⟨some 29, .mv (.t 60), none⟩])))))))
  (.seq (.ops false [⟨some 62, .mv (.t 0), none⟩, ⟨some 63, .mv (.t 1), none⟩, ⟨some 64, .callP 8 [(.c (.int .i64 4)), (.t 62), (.t 63)], none⟩, ⟨some 61, .mv (.t 64), none⟩, ⟨some 65, .extract 0 (.t 61), none⟩, ⟨some 66, .extract 1 (.t 61), none⟩, ⟨some 11, .mv (.t 65), none⟩, ⟨some 12, .mv (.t 66), none⟩])
  (.seq (.ops false [⟨some 68, .mv (.t 11), none⟩, ⟨some 69, .mv (.t 1), none⟩, ⟨some 70, .callP 8 [(.c (.int .i64 3)), (.t 68), (.t 69)], none⟩, ⟨some 67, .mv (.t 70), none⟩, ⟨some 71, .extract 0 (.t 67), none⟩, ⟨some 72, .extract 1 (.t 67), none⟩, ⟨some 13, .mv (.t 71), none⟩, ⟨some 14, .mv (.t 72), none⟩])
  (.seq (.ops false [⟨some 74, .mv (.t 1), none⟩, ⟨some 75, .callP 6 [(.c (.int .i64 1)), (.t 74)], none⟩, ⟨some 73, .mv (.t 75), none⟩, ⟨some 76, .extract 0 (.t 73), none⟩, ⟨some 77, .extract 1 (.t 73), none⟩, ⟨some 15, .mv (.t 76), none⟩, ⟨some 16, .mv (.t 77), none⟩])
  (.seq (.ops false [⟨some 79, .mv (.t 0), none⟩, ⟨some 80, .mv (.t 15), none⟩, ⟨some 81, .callP 8 [(.c (.int .i64 3)), (.t 79), (.t 80)], none⟩, ⟨some 78, .mv (.t 81), none⟩, ⟨some 82, .extract 0 (.t 78), none⟩, ⟨some 83, .extract 1 (.t 78), none⟩, ⟨some 17, .mv (.t 82), none⟩, ⟨some 18, .mv (.t 83), none⟩])
  (.seq (.seq (.ops false [⟨some 84, .mv (.t 13), none⟩, ⟨some 85, .mv (.t 0), none⟩, ⟨some 86, .bin .neq (.t 84) (.t 85), none⟩, ⟨some 87, .mv (.t 86), none⟩, ⟨some 88, .mv (.t 17), some (87, false)⟩, ⟨some 89, .mv (.t 11), some (87, false)⟩, ⟨some 90, .bin .neq (.t 88) (.t 89), some (87, false)⟩, ⟨some 91, .pick (.t 87) (.c (.bool true)) (.t 90), none⟩])
  (.cond (.t 91) (.seq (.ops false [⟨some 4, .mv (.c (.bool false)), none⟩])
   (.ret))
   (.skip)))
  (.seq (.ops false [⟨some 93, .mv (.t 0), none⟩, ⟨some 94, .mv (.t 1), none⟩, ⟨some 95, .callP 8 [(.c (.int .i64 6)), (.t 93), (.t 94)], none⟩, ⟨some 92, .mv (.t 95), none⟩, ⟨some 96, .extract 0 (.t 92), none⟩, ⟨some 97, .extract 1 (.t 92), none⟩, ⟨some 19, .mv (.t 96), none⟩, ⟨some 20, .mv (.t 97), none⟩])
  (.seq (.ops false [⟨some 99, .mv (.t 0), none⟩, ⟨some 100, .mv (.t 1), none⟩, ⟨some 101, .callP 8 [(.c (.int .i64 7)), (.t 99), (.t 100)], none⟩, ⟨some 98, .mv (.t 101), none⟩, ⟨some 102, .extract 0 (.t 98), none⟩, ⟨some 103, .extract 1 (.t 98), none⟩, ⟨some 21, .mv (.t 102), none⟩, ⟨some 22, .mv (.t 103), none⟩])
  (.seq (.seq (.ops false [⟨some 104, .mv (.t 1), none⟩, ⟨some 105, .bin .eql (.t 104) (.c (.int .i64 0)), none⟩])
  (.cond (.t 105) (.seq (.ops false [⟨some 106, .mv (.t 20), none⟩, ⟨some 107, .callP 10 [(.t 106)], none⟩, ⟨some 108, .bin .eql (.t 107) (.c (.int .i64 15)), none⟩, ⟨some 109, .mv (.t 108), none⟩, ⟨some 110, .mv (.t 22), some (109, true)⟩, ⟨some 111, .callP 10 [(.t 110)], some (109, true)⟩, ⟨some 112, .bin .eql (.t 111) (.c (.int .i64 15)), some (109, true)⟩, ⟨some 113, .pick (.t 109) (.t 112) (.c (.bool false)), none⟩, ⟨some 114, .mv (.t 113), none⟩, ⟨some 115, .mv (.t 19), some (114, true)⟩, ⟨some 116, .bin .eql (.t 115) (.c (.int .i64 0)), some (114, true)⟩, ⟨some 117, .pick (.t 114) (.t 116) (.c (.bool false)), none⟩, ⟨some 118, .mv (.t 117), none⟩, ⟨some 119, .mv (.t 21), some (118, true)⟩, ⟨some 120, .bin .eql (.t 119) (.c (.int .i64 0)), some (118, true)⟩, ⟨some 121, .pick (.t 118) (.t 120) (.c (.bool false)), none⟩, ⟨some 122, .mv (.t 121), none⟩, ⟨some 123, .callP 11 [], some (122, true)⟩, ⟨some 124, .pick (.t 122) (.t 123) (.c (.bool false)), none⟩, ⟨some 4, .mv (.t 124), none⟩])
   (.ret))
   (.skip)))
  (.seq (.ops false [⟨some 126, .mv (.t 19), none⟩, ⟨some 127, .mv (.t 1), none⟩, ⟨some 128, .callP 8 [(.c (.int .i64 5)), (.t 126), (.t 127)], none⟩, ⟨some 125, .mv (.t 128), none⟩, ⟨some 129, .extract 0 (.t 125), none⟩, ⟨some 130, .extract 1 (.t 125), none⟩, ⟨some 23, .mv (.t 129), none⟩, ⟨some 24, .mv (.t 130), none⟩])
  (.seq (.ops false [⟨some 132, .mv (.t 23), none⟩, ⟨some 133, .mv (.t 21), none⟩, ⟨some 134, .callP 8 [(.c (.int .i64 3)), (.t 132), (.t 133)], none⟩, ⟨some 131, .mv (.t 134), none⟩, ⟨some 135, .extract 0 (.t 131), none⟩, ⟨some 136, .extract 1 (.t 131), none⟩, ⟨some 25, .mv (.t 135), none⟩, ⟨some 26, .mv (.t 136), none⟩])
  (.seq (.ops false [⟨some 137, .mv (.t 25), none⟩, ⟨some 138, .mv (.t 0), none⟩, ⟨some 139, .bin .eql (.t 137) (.t 138), none⟩, ⟨some 140, .mv (.t 139), none⟩, ⟨some 141, .callP 11 [], some (140, true)⟩, ⟨some 142, .pick (.t 140) (.t 141) (.c (.bool false)), none⟩, ⟨some 4, .mv (.t 142), none⟩])
  (.ret))))))))))))),
  [.t 4]⟩

/- noria/norialaw07.ArithTypes -/
def d_norialaw07_ArithTypes : DFun := ⟨
  .seq (.ops false [⟨some 4, .box (.t 1), none⟩, ⟨some 5, .box (.t 2), none⟩, ⟨some 6, .mv (.c (.bool false)), none⟩])
  (.seq (.ops false [⟨some 16, .mv (.t 0), none⟩, ⟨some 17, .load (some 3) (.t 4), none⟩, ⟨some 18, .callP 12 [(.t 16), (.t 17)], none⟩, ⟨some 15, .mv (.t 18), none⟩, ⟨some 19, .extract 0 (.t 15), none⟩, ⟨some 20, .extract 1 (.t 15), none⟩, ⟨some 7, .alloc [.int .i64 0, .int .i64 0, .int .i64 0], none⟩, ⟨none, .store 3 (.t 7) (.t 19), none⟩, ⟨some 8, .mv (.t 20), none⟩])
  (.seq (.ops false [⟨some 22, .mv (.t 0), none⟩, ⟨some 23, .load (some 3) (.t 4), none⟩, ⟨some 24, .callP 13 [(.t 22), (.t 23)], none⟩, ⟨some 21, .mv (.t 24), none⟩, ⟨some 25, .extract 0 (.t 21), none⟩, ⟨some 26, .extract 1 (.t 21), none⟩, ⟨some 9, .alloc [.int .i64 0, .int .i64 0, .int .i64 0], none⟩, ⟨none, .store 3 (.t 9) (.t 25), none⟩, ⟨some 10, .mv (.t 26), none⟩])
  (.seq (.ops false [⟨some 28, .mv (.t 0), none⟩, ⟨some 29, .load (some 3) (.t 4), none⟩, ⟨some 30, .load (some 3) (.t 5), none⟩, ⟨some 31, .callP 14 [(.t 28), (.t 29), (.t 30)], none⟩, ⟨some 27, .mv (.t 31), none⟩, ⟨some 32, .extract 0 (.t 27), none⟩, ⟨some 33, .extract 1 (.t 27), none⟩, ⟨some 11, .alloc [.int .i64 0, .int .i64 0, .int .i64 0], none⟩, ⟨none, .store 3 (.t 11) (.t 32), none⟩, ⟨some 12, .mv (.t 33), none⟩])
  (.seq (.ops false [⟨some 35, .mv (.t 0), none⟩, ⟨some 36, .load (some 3) (.t 4), none⟩, ⟨some 37, .load (some 3) (.t 5), none⟩, ⟨some 38, .callP 15 [(.t 35), (.t 36), (.t 37)], none⟩, ⟨some 34, .mv (.t 38), none⟩, ⟨some 39, .extract 0 (.t 34), none⟩, ⟨some 40, .extract 1 (.t 34), none⟩, ⟨some 13, .alloc [.int .i64 0, .int .i64 0, .int .i64 0], none⟩, ⟨none, .store 3 (.t 13) (.t 39), none⟩, ⟨some 14, .mv (.t 40), none⟩])
  (.seq (.ops false [⟨some 41, .load (some 3) (.t 7), none⟩, ⟨some 42, .load (some 3) (.t 9), none⟩, ⟨some 43, .aeq false [0, 0, 0] (.t 41) (.t 42), none⟩, ⟨some 44, .mv (.t 43), none⟩, ⟨some 45, .mv (.t 8), some (44, true)⟩, ⟨some 46, .mv (.t 10), some (44, true)⟩, ⟨some 47, .beq false (.t 45) (.t 46), some (44, true)⟩, ⟨some 48, .pick (.t 44) (.t 47) (.c (.bool false)), none⟩, ⟨some 49, .mv (.t 48), none⟩, ⟨some 50, .load (some 3) (.t 11), some (49, true)⟩, ⟨some 51, .load (some 3) (.t 13), some (49, true)⟩, ⟨some 52, .aeq false [0, 0, 0] (.t 50) (.t 51), some (49, true)⟩, ⟨some 53, .pick (.t 49) (.t 52) (.c (.bool false)), none⟩, ⟨some 54, .mv (.t 53), none⟩, ⟨some 55, .mv (.t 12), some (54, true)⟩, ⟨some 56, .mv (.t 14), some (54, true)⟩, ⟨some 57, .beq false (.t 55) (.t 56), some (54, true)⟩, ⟨some 58, .pick (.t 54) (.t 57) (.c (.bool false)), none⟩, ⟨some 59, .mv (.t 58), none⟩, ⟨some 60, .mv (.t 0), some (59, true)⟩, ⟨some 61, .callP 16 [(.t 60)], some (59, true)⟩, ⟨some 62, .mv (.t 0), some (59, true)⟩, ⟨some 63, .callP 17 [(.t 62)], some (59, true)⟩, ⟨some 64, .bin .eql (.t 61) (.t 63), some (59, true)⟩, ⟨some 65, .pick (.t 59) (.t 64) (.c (.bool false)), none⟩, ⟨some 66, .mv (.t 65), none⟩, ⟨some 67, .callP 11 [], some (66, true)⟩, ⟨some 68, .pick (.t 66) (.t 67) (.c (.bool false)), none⟩, ⟨some 6, .mv (.t 68), none⟩])
  (.ret)))))),
  [.t 6]⟩

/- noria/arith.Un -/
def d_arith_Un : DFun := ⟨
  .seq (.ops false [⟨some 4, .mv (.c (.int .i64 0)), none⟩, ⟨some 5, .mv (.c (.int .i64 0)), none⟩])
  (.seq (.seq (.ops false [⟨some 6, .mv (.t 0), none⟩])
  (.block 0 (.seq (.ops false [⟨some 8, .bin .eql (.t 6) (.c (.int .i64 1)), none⟩, ⟨some 7, .mv (.t 8), none⟩])
   (.cond (.t 7) (.seq (.ops false [⟨some 9, .mv (.t 1), none⟩, ⟨some 10, .un .neg (.t 9), none⟩, ⟨some 4, .mv (.t 10), none⟩, ⟨some 5, .mv (.c (.int .i64 0)), none⟩])
    (.ret))
    (.seq (.ops false [⟨some 12, .bin .eql (.t 6) (.c (.int .i64 2)), none⟩, ⟨some 11, .mv (.t 12), none⟩])
    (.cond (.t 11) (.seq (.ops false [⟨some 13, .mv (.t 1), none⟩, ⟨some 14, .bin .eql (.t 13) (.c (.int .i64 0)), none⟩, ⟨some 15, .callP 18 [(.t 14)], none⟩, ⟨some 4, .mv (.t 15), none⟩, ⟨some 5, .mv (.c (.int .i64 0)), none⟩])
     (.ret))
     (.skip)))))))
  (.seq (.ops false [⟨some 4, .mv (.c (.int .i64 0)), none⟩, ⟨some 5, .mv (.c (.int .i64 1)), none⟩])
  (.ret))),
  [.t 4, .t 5]⟩

/- noria/noriaref07.Un -/
def d_noriaref07_Un : DFun := ⟨
  .seq (.ops false [⟨some 4, .mv (.c (.int .i64 0)), none⟩, ⟨some 5, .mv (.c (.int .i64 0)), none⟩])
  (.seq (.seq (.ops false [⟨some 6, .mv (.t 0), none⟩, ⟨some 7, .bin .eql (.t 6) (.c (.int .i64 1)), none⟩])
  (.cond (.t 7) (.seq (.ops false [⟨some 8, .mv (.t 1), none⟩, ⟨some 9, .conv .u64 (.t 8), none⟩, ⟨some 10, .bin .sub (.c (.int .u64 0)) (.t 9), none⟩, ⟨some 11, .conv .i64 (.t 10), none⟩, ⟨some 4, .mv (.t 11), none⟩, ⟨some 5, .mv (.c (.int .i64 0)), none⟩])
   (.ret))
   (.skip)))
  (.seq (.seq (.ops false [⟨some 12, .mv (.t 0), none⟩, ⟨some 13, .bin .eql (.t 12) (.c (.int .i64 2)), none⟩])
  (.cond (.t 13) (.seq (.ops false [⟨some 14, .mv (.t 1), none⟩, ⟨some 15, .bin .eql (.t 14) (.c (.int .i64 0)), none⟩, ⟨some 16, .callP 19 [(.t 15)], none⟩, ⟨some 4, .mv (.t 16), none⟩, ⟨some 5, .mv (.c (.int .i64 0)), none⟩])
   (.ret))
   (.skip)))
  (.seq (.ops false [⟨some 4, .mv (.c (.int .i64 0)), none⟩, ⟨some 5, .mv (.c (.int .i64 1)), none⟩])
  (.ret)))),
  [.t 4, .t 5]⟩

/- noria/arith.Bin -/
def d_arith_Bin : DFun := ⟨
  .seq (.ops false [⟨some 6, .mv (.c (.int .i64 0)), none⟩, ⟨some 7, .mv (.c (.int .i64 0)), none⟩])
  (.seq (.seq (.ops false [⟨some 8, .mv (.t 0), none⟩, ⟨some 9, .callP 20 [(.t 8)], none⟩])
  (.block 0 (.seq (.ops false [⟨some 11, .bin .eql (.t 9) (.c (.int .i64 0)), none⟩, ⟨some 10, .mv (.t 11), none⟩])
   (.cond (.t 10) (.seq (.ops false [⟨some 6, .mv (.c (.int .i64 0)), none⟩, ⟨some 7, .mv (.c (.int .i64 1)), none⟩])
    (.ret))
    (.seq (.ops false [⟨some 13, .bin .eql (.t 9) (.c (.int .i64 1)), none⟩, ⟨some 12, .mv (.t 13), none⟩])
    (.cond (.t 12) (.seq (.ops false [⟨some 14, .mv (.t 0), none⟩, ⟨some 15, .mv (.t 1), none⟩, ⟨some 16, .mv (.t 2), none⟩, ⟨some 17, .callP 21 [(.t 14), (.t 15), (.t 16)], none⟩, ⟨some 18, .extract 0 (.t 17), none⟩, ⟨some 19, .extract 1 (.t 17), none⟩, ⟨some 6, .mv (.t 18), none⟩, ⟨some 7, .mv (.t 19), none⟩])
     (.ret))
     (.skip)))))))
  (.seq (.ops false [⟨some 20, .mv (.t 0), none⟩, ⟨some 21, .mv (.t 1), none⟩, ⟨some 22, .mv (.t 2), none⟩, ⟨some 23, .callP 22 [(.t 20), (.t 21), (.t 22)], none⟩, ⟨some 24, .callP 18 [(.t 23)], none⟩, ⟨some 6, .mv (.t 24), none⟩, ⟨some 7, .mv (.c (.int .i64 0)), none⟩])
  (.ret))),
  [.t 6, .t 7]⟩

/- noria/noriaref07.Bin -/
def d_noriaref07_Bin : DFun := ⟨
  .seq (.ops false [⟨some 6, .mv (.c (.int .i64 0)), none⟩, ⟨some 7, .mv (.c (.int .i64 0)), none⟩])
  (.seq (.ops false [⟨some 10, .mv (.t 1), none⟩, ⟨some 11, .bin .neq (.t 10) (.c (.int .i64 0)), none⟩, ⟨some 12, .mv (.t 2), none⟩, ⟨some 13, .bin .neq (.t 12) (.c (.int .i64 0)), none⟩, ⟨some 8, .mv (.t 11), none⟩, ⟨some 9, .mv (.t 13), none⟩])
  (.seq (.seq (.ops false [⟨some 14, .mv (.t 0), none⟩])
  (.block 0 (.seq (.seq (.ops false [⟨some 16, .bin .eql (.t 14) (.c (.int .i64 3)), none⟩, ⟨some 15, .mv (.t 16), none⟩])
   (.cond (.t 15) (.skip)
    (.seq (.ops false [⟨some 17, .bin .eql (.t 14) (.c (.int .i64 4)), none⟩, ⟨some 15, .mv (.t 17), none⟩])
    (.cond (.t 15) (.skip)
     (.seq (.ops false [⟨some 18, .bin .eql (.t 14) (.c (.int .i64 5)), none⟩, ⟨some 15, .mv (.t 18), none⟩])
     (.cond (.t 15) (.skip)
      (.seq (.ops false [⟨some 19, .bin .eql (.t 14) (.c (.int .i64 6)), none⟩, ⟨some 15, .mv (.t 19), none⟩])
      (.cond (.t 15) (.skip)
       (.ops false [⟨some 20, .bin .eql (.t 14) (.c (.int .i64 7)), none⟩, ⟨some 15, .mv (.t 20), none⟩])))))))))
   (.cond (.t 15) (.seq (.ops false [⟨some 21, .mv (.t 0), none⟩, ⟨some 22, .mv (.t 1), none⟩, ⟨some 23, .mv (.t 2), none⟩, ⟨some 24, .callP 23 [(.t 21), (.t 22), (.t 23)], none⟩, ⟨some 25, .extract 0 (.t 24), none⟩, ⟨some 26, .extract 1 (.t 24), none⟩, ⟨some 6, .mv (.t 25), none⟩, ⟨some 7, .mv (.t 26), none⟩])
    (.ret))
    (.seq (.ops false [⟨some 28, .bin .eql (.t 14) (.c (.int .i64 8)), none⟩, ⟨some 27, .mv (.t 28), none⟩])
    (.cond (.t 27) (.seq (.ops false [⟨some 29, .mv (.t 8), none⟩, ⟨some 30, .mv (.t 29), none⟩, ⟨some 31, .mv (.t 9), some (30, true)⟩, ⟨some 32, .pick (.t 30) (.t 31) (.c (.bool false)), none⟩, ⟨some 33, .callP 19 [(.t 32)], none⟩, ⟨some 6, .mv (.t 33), none⟩, ⟨some 7, .mv (.c (.int .i64 0)), none⟩])
     (.ret))
     (.seq (.ops false [⟨some 35, .bin .eql (.t 14) (.c (.int .i64 9)), none⟩, ⟨some 34, .mv (.t 35), none⟩])
     (.cond (.t 34) (.seq (.ops false [⟨some 36, .mv (.t 8), none⟩, ⟨some 37, .mv (.t 36), none⟩, ⟨some 38, .mv (.t 9), some (37, false)⟩, ⟨some 39, .pick (.t 37) (.c (.bool true)) (.t 38), none⟩, ⟨some 40, .callP 19 [(.t 39)], none⟩, ⟨some 6, .mv (.t 40), none⟩, ⟨some 7, .mv (.c (.int .i64 0)), none⟩])
      (.ret))
      (.seq (.ops false [⟨some 42, .bin .eql (.t 14) (.c (.int .i64 10)), none⟩, ⟨some 41, .mv (.t 42), none⟩])
      (.cond (.t 41) (.seq (.ops false [⟨some 43, .mv (.t 8), none⟩, ⟨some 44, .mv (.t 9), none⟩, ⟨some 45, .beq true (.t 43) (.t 44), none⟩, ⟨some 46, .callP 19 [(.t 45)], none⟩, ⟨some 6, .mv (.t 46), none⟩, ⟨some 7, .mv (.c (.int .i64 0)), none⟩])
       (.ret))
       (.seq (.ops false [⟨some 48, .bin .eql (.t 14) (.c (.int .i64 11)), none⟩, ⟨some 47, .mv (.t 48), none⟩])
       (.cond (.t 47) (.seq (.ops false [⟨some 49, .mv (.t 1), none⟩, ⟨some 50, .mv (.t 2), none⟩, ⟨some 51, .bin .eql (.t 49) (.t 50), none⟩, ⟨some 52, .callP 19 [(.t 51)], none⟩, ⟨some 6, .mv (.t 52), none⟩, ⟨some 7, .mv (.c (.int .i64 0)), none⟩])
        (.ret))
        (.seq (.ops false [⟨some 54, .bin .eql (.t 14) (.c (.int .i64 12)), none⟩, ⟨some 53, .mv (.t 54), none⟩])
        (.cond (.t 53) (.seq (.ops false [⟨some 55, .mv (.t 1), none⟩, ⟨some 56, .mv (.t 2), none⟩, ⟨some 57, .bin .neq (.t 55) (.t 56), none⟩, ⟨some 58, .callP 19 [(.t 57)], none⟩, ⟨some 6, .mv (.t 58), none⟩, ⟨some 7, .mv (.c (.int .i64 0)), none⟩])
         (.ret))
         (.seq (.ops false [⟨some 60, .bin .eql (.t 14) (.c (.int .i64 13)), none⟩, ⟨some 59, .mv (.t 60), none⟩])
         (.cond (.t 59) (.seq (.ops false [⟨some 61, .mv (.t 1), none⟩, ⟨some 62, .mv (.t 2), none⟩, ⟨some 63, .bin .lss (.t 61) (.t 62), none⟩, ⟨some 64, .callP 19 [(.t 63)], none⟩, ⟨some 6, .mv (.t 64), none⟩, ⟨some 7, .mv (.c (.int .i64 0)), none⟩])
          (.ret))
          (.seq (.ops false [⟨some 66, .bin .eql (.t 14) (.c (.int .i64 14)), none⟩, ⟨some 65, .mv (.t 66), none⟩])
          (.cond (.t 65) (.seq (.ops false [⟨some 67, .mv (.t 1), none⟩, ⟨some 68, .mv (.t 2), none⟩, ⟨some 69, .bin .leq (.t 67) (.t 68), none⟩, ⟨some 70, .callP 19 [(.t 69)], none⟩, ⟨some 6, .mv (.t 70), none⟩, ⟨some 7, .mv (.c (.int .i64 0)), none⟩])
           (.ret))
           (.seq (.ops false [⟨some 72, .bin .eql (.t 14) (.c (.int .i64 15)), none⟩, ⟨some 71, .mv (.t 72), none⟩])
           (.cond (.t 71) (.seq (.ops false [⟨some 73, .mv (.t 1), none⟩, ⟨some 74, .mv (.t 2), none⟩, ⟨some 75, .bin .gtr (.t 73) (.t 74), none⟩, ⟨some 76, .callP 19 [(.t 75)], none⟩, ⟨some 6, .mv (.t 76), none⟩, ⟨some 7, .mv (.c (.int .i64 0)), none⟩])
            (.ret))
            (.seq (.ops false [⟨some 78, .bin .eql (.t 14) (.c (.int .i64 16)), none⟩, ⟨some 77, .mv (.t 78), none⟩])
            (.cond (.t 77) (.seq (.ops false [⟨some 79, .mv (.t 1), none⟩, ⟨some 80, .mv (.t 2), none⟩, ⟨some 81, .bin .geq (.t 79) (.t 80), none⟩, ⟨some 82, .callP 19 [(.t 81)], none⟩, ⟨some 6, .mv (.t 82), none⟩, ⟨some 7, .mv (.c (.int .i64 0)), none⟩])
             (.ret))
             (.skip)))))))))))))))))))))))
  (.seq (.ops false [⟨some 6, .mv (.c (.int .i64 0)), none⟩, ⟨some 7, .mv (.c (.int .i64 1)), none⟩])
  (.ret)))),
  [.t 6, .t 7]⟩

/- noria/norialaw07.num -/
def d_norialaw07_num : DFun := ⟨
  .seq (.ops false [⟨some 2, .mv (.c (.int .i64 0)), none⟩])
  (.seq (.ops false [⟨some 3, .mv (.t 0), none⟩, ⟨some 2, .mv (.t 3), none⟩])
  (.ret)),
  [.t 2]⟩

/- noria/norialaw07.live -/
def d_norialaw07_live : DFun := ⟨
  .seq (.ops false [⟨some 0, .mv (.c (.bool false)), none⟩])
  (.seq (.ops false [⟨some 8, .callP 8 [(.c (.int .i64 6)), (.c (.int .i64 (-7))), (.c (.int .i64 2))], none⟩, ⟨some 7, .mv (.t 8), none⟩, ⟨some 9, .extract 0 (.t 7), none⟩, ⟨some 10, .extract 1 (.t 7), none⟩, ⟨some 1, .mv (.t 9), none⟩, ⟨some 2, .mv (.t 10), none⟩])
  (.seq (.ops false [⟨some 12, .callP 8 [(.c (.int .i64 7)), (.c (.int .i64 (-7))), (.c (.int .i64 2))], none⟩, ⟨some 11, .mv (.t 12), none⟩, ⟨some 13, .extract 0 (.t 11), none⟩, ⟨some 14, .extract 1 (.t 11), none⟩, ⟨some 3, .mv (.t 13), none⟩, ⟨some 4, .mv (.t 14), none⟩])
  (.seq (.ops false [⟨some 16, .callP 8 [(.c (.int .i64 6)), (.c (.int .i64 1)), (.c (.int .i64 0))], none⟩, ⟨some 15, .mv (.t 16), none⟩, ⟨some 17, .extract 0 (.t 15), none⟩, ⟨some 18, .extract 1 (.t 15), none⟩, ⟨some 5, .mv (.t 17), none⟩, ⟨some 6, .mv (.t 18), none⟩])
  (.seq (.ops false [⟨some 19, .mv (.t 1), none⟩, ⟨some 20, .bin .eql (.t 19) (.c (.int .i64 (-3))), none⟩, ⟨some 21, .mv (.t 20), none⟩, ⟨some 22, .mv (.t 3), some (21, true)⟩, ⟨some 23, .bin .eql (.t 22) (.c (.int .i64 (-1))), some (21, true)⟩, ⟨some 24, .pick (.t 21) (.t 23) (.c (.bool false)), none⟩, ⟨some 25, .mv (.t 24), none⟩, ⟨some 26, .mv (.t 2), some (25, true)⟩, ⟨some 27, .callP 10 [(.t 26)], some (25, true)⟩, ⟨some 28, .bin .eql (.t 27) (.c (.int .i64 0)), some (25, true)⟩, ⟨some 29, .pick (.t 25) (.t 28) (.c (.bool false)), none⟩, ⟨some 30, .mv (.t 29), none⟩, ⟨some 31, .mv (.t 4), some (30, true)⟩, ⟨some 32, .callP 10 [(.t 31)], some (30, true)⟩, ⟨some 33, .bin .eql (.t 32) (.c (.int .i64 0)), some (30, true)⟩, ⟨some 34, .pick (.t 30) (.t 33) (.c (.bool false)), none⟩, ⟨some 35, .mv (.t 34), none⟩, ⟨some 36, .mv (.t 6), some (35, true)⟩, ⟨some 37, .callP 10 [(.t 36)], some (35, true)⟩, ⟨some 38, .bin .eql (.t 37) (.c (.int .i64 15)), some (35, true)⟩, ⟨some 39, .pick (.t 35) (.t 38) (.c (.bool false)), none⟩, ⟨some 0, .mv (.t 39), none⟩])
  (.ret))))),
  [.t 0]⟩

/- noria/arith.UnTy -/
def d_arith_UnTy : DFun := ⟨
  .seq (.ops false [⟨some 3, .box (.t 1), none⟩, ⟨some 4, .alloc [.int .i64 0, .int .i64 0, .int .i64 0], none⟩, ⟨some 5, .mv (.c (.bool false)), none⟩])
  (.seq (.ops false [⟨some 7, .build [.int .i64 0, .int .i64 0, .int .i64 0] [], none⟩, ⟨some 6, .alloc [.int .i64 0, .int .i64 0, .int .i64 0], none⟩, ⟨none, .store 3 (.t 6) (.t 7), none⟩])
  (.seq (.seq (.ops false [⟨some 8, .mv (.t 0), none⟩])
  (.block 0 (.seq (.ops false [⟨some 10, .bin .eql (.t 8) (.c (.int .i64 1)), none⟩, ⟨some 9, .mv (.t 10), none⟩])
   (.cond (.t 9) (.ops false [⟨some 11, .faddr 0 (.t 6), none⟩, ⟨none, .store 1 (.t 11) (.c (.int .i64 1)), none⟩])
    (.seq (.ops false [⟨some 13, .bin .eql (.t 8) (.c (.int .i64 2)), none⟩, ⟨some 12, .mv (.t 13), none⟩])
    (.cond (.t 12) (.ops false [⟨some 14, .faddr 0 (.t 6), none⟩, ⟨none, .store 1 (.t 14) (.c (.int .i64 2)), none⟩])
     (.skip)))))))
  (.seq (.seq (.ops false [⟨some 15, .faddr 0 (.t 6), none⟩, ⟨some 16, .load none (.t 15), none⟩, ⟨some 17, .bin .eql (.t 16) (.c (.int .i64 0)), none⟩, ⟨some 18, .mv (.t 17), none⟩, ⟨some 19, .load (some 3) (.t 3), some (18, false)⟩, ⟨some 20, .load (some 3) (.t 6), some (18, false)⟩, ⟨some 21, .aeq true [0, 0, 0] (.t 19) (.t 20), some (18, false)⟩, ⟨some 22, .pick (.t 18) (.c (.bool true)) (.t 21), none⟩])
  (.cond (.t 22) (.seq (.ops false [⟨some 23, .build [.int .i64 0, .int .i64 0, .int .i64 0] [], none⟩, ⟨none, .store 3 (.t 4) (.t 23), none⟩, ⟨some 5, .mv (.c (.bool false)), none⟩])
   (.ret))
   (.skip)))
  (.seq (.ops false [⟨some 24, .load (some 3) (.t 6), none⟩, ⟨none, .store 3 (.t 4) (.t 24), none⟩, ⟨some 5, .mv (.c (.bool true)), none⟩])
  (.ret))))),
  [.cell 4 (some 3), .t 5]⟩

/- noria/noriaref07.UnTy -/
def d_noriaref07_UnTy : DFun := ⟨
  .seq (.ops false [⟨some 3, .box (.t 1), none⟩, ⟨some 4, .alloc [.int .i64 0, .int .i64 0, .int .i64 0], none⟩, ⟨some 5, .mv (.c (.bool false)), none⟩])
  (.seq (.seq (.ops true [⟨some 6, .mv (.t 0), none⟩, ⟨some 7, .bin .eql (.t 6) (.c (.int .i64 1)), none⟩, ⟨some 8, .mv (.t 7), none⟩, ⟨some 9, .load (some 3) (.t 3), some (8, true)⟩, ⟨some 10, .callP 24 [(.c (.int .i64 1))], some (8, true)⟩, ⟨some 11, .aeq false [0, 0, 0] (.t 9) (.t 10), some (8, true)⟩, ⟨some 12, .pick (.t 8) (.t 11) (.c (.bool false)), none⟩, ⟨some 13, .mv (.t 12), none⟩, ⟨some 14, .mv (.t 0), some (13, false)⟩, ⟨some 15, .bin .eql (.t 14) (.c (.int .i64 2)), some (13, false)⟩, ⟨some 16, .mv (.t 15), some (13, false)⟩, ⟨some 17, .load (some 3) (.t 3), some (16, true)⟩, ⟨some 18, .callP 24 [(.c (.int .i64 2))], some (16, true)⟩, ⟨some 19, .aeq false [0, 0, 0] (.t 17) (.t 18), some (16, true)⟩, ⟨some 20, .pick (.t 16) (.t 19) (.c (.bool false)), some (13, false)⟩, ⟨some 21, .pick (.t 13) (.c (.bool true)) (.t 20), none⟩])
  (.cond (.t 21) (.seq (.ops false [⟨some 22, .load (some 3) (.t 3), none⟩, ⟨none, .store 3 (.t 4) (.t 22), none⟩, ⟨some 5, .mv (.c (.bool true)), none⟩])
   (.ret))
   (.skip)))
  (.seq (.ops false [⟨some 23, .build [.int .i64 0, .int .i64 0, .int .i64 0] [], none⟩, ⟨none, .store 3 (.t 4) (.t 23), none⟩, ⟨some 5, .mv (.c (.bool false)), none⟩])
  (.ret))),
  [.cell 4 (some 3), .t 5]⟩

/- noria/arith.BinTy -/
def d_arith_BinTy : DFun := ⟨
  .seq (.ops false [⟨some 4, .box (.t 1), none⟩, ⟨some 5, .box (.t 2), none⟩, ⟨some 6, .alloc [.int .i64 0, .int .i64 0, .int .i64 0], none⟩, ⟨some 7, .mv (.c (.bool false)), none⟩])
  (.seq (.ops false [⟨some 12, .build [.int .i64 0, .int .i64 0, .int .i64 0] [(0, 1, (.c (.int .i64 1)))], none⟩, ⟨some 13, .build [.int .i64 0, .int .i64 0, .int .i64 0] [(0, 1, (.c (.int .i64 2)))], none⟩, ⟨some 8, .alloc [.int .i64 0, .int .i64 0, .int .i64 0], none⟩, ⟨some 9, .alloc [.int .i64 0, .int .i64 0, .int .i64 0], none⟩, ⟨none, .store 3 (.t 8) (.t 12), none⟩, ⟨none, .store 3 (.t 9) (.t 13), none⟩])
  (.seq (.ops false [⟨some 10, .alloc [.int .i64 0, .int .i64 0, .int .i64 0], none⟩])
  (.seq (.ops false [⟨some 11, .mv (.c (.bool false)), none⟩])
  (.seq (.seq (.ops false [⟨some 14, .mv (.t 0), none⟩, ⟨some 15, .callP 20 [(.t 14)], none⟩])
  (.block 0 (.seq (.ops false [⟨some 17, .bin .eql (.t 15) (.c (.int .i64 1)), none⟩, ⟨some 16, .mv (.t 17), none⟩])
   (.cond (.t 16) (.opsS [(5, 10), (8, 10)] [(0, ⟨some 18, .load (some 3) (.t 8), none⟩), (1, ⟨some 19, .load (some 3) (.t 4), none⟩), (2, ⟨some 20, .load (some 3) (.t 8), none⟩), (3, ⟨some 21, .aeq false [0, 0, 0] (.t 19) (.t 20), none⟩), (4, ⟨some 22, .mv (.t 21), none⟩), (5, ⟨some 23, .load (some 3) (.t 5), some (22, true)⟩), (6, ⟨some 24, .load (some 3) (.t 8), some (22, true)⟩), (7, ⟨some 25, .aeq false [0, 0, 0] (.t 23) (.t 24), some (22, true)⟩), (8, ⟨some 26, .pick (.t 22) (.t 25) (.c (.bool false)), none⟩), (9, ⟨none, .to 10 (.store 3 (.t 10) (.t 18)), none⟩), (10, ⟨some 11, .mv (.t 26), none⟩)])
    (.seq (.ops false [⟨some 28, .bin .eql (.t 15) (.c (.int .i64 2)), none⟩, ⟨some 27, .mv (.t 28), none⟩])
    (.cond (.t 27) (.opsS [(5, 10), (9, 10)] [(0, ⟨some 29, .load (some 3) (.t 9), none⟩), (1, ⟨some 30, .load (some 3) (.t 4), none⟩), (2, ⟨some 31, .load (some 3) (.t 9), none⟩), (3, ⟨some 32, .aeq false [0, 0, 0] (.t 30) (.t 31), none⟩), (4, ⟨some 33, .mv (.t 32), none⟩), (5, ⟨some 34, .load (some 3) (.t 5), some (33, true)⟩), (6, ⟨some 35, .load (some 3) (.t 9), some (33, true)⟩), (7, ⟨some 36, .aeq false [0, 0, 0] (.t 34) (.t 35), some (33, true)⟩), (8, ⟨some 37, .pick (.t 33) (.t 36) (.c (.bool false)), none⟩), (9, ⟨none, .to 10 (.store 3 (.t 10) (.t 29)), none⟩), (10, ⟨some 11, .mv (.t 37), none⟩)])
     (.seq (.ops false [⟨some 39, .bin .eql (.t 15) (.c (.int .i64 3)), none⟩, ⟨some 38, .mv (.t 39), none⟩])
     (.cond (.t 38) (.opsS [(5, 10), (8, 10)] [(0, ⟨some 40, .load (some 3) (.t 9), none⟩), (1, ⟨some 41, .load (some 3) (.t 4), none⟩), (2, ⟨some 42, .load (some 3) (.t 8), none⟩), (3, ⟨some 43, .aeq false [0, 0, 0] (.t 41) (.t 42), none⟩), (4, ⟨some 44, .mv (.t 43), none⟩), (5, ⟨some 45, .load (some 3) (.t 5), some (44, true)⟩), (6, ⟨some 46, .load (some 3) (.t 8), some (44, true)⟩), (7, ⟨some 47, .aeq false [0, 0, 0] (.t 45) (.t 46), some (44, true)⟩), (8, ⟨some 48, .pick (.t 44) (.t 47) (.c (.bool false)), none⟩), (9, ⟨none, .to 10 (.store 3 (.t 10) (.t 40)), none⟩), (10, ⟨some 11, .mv (.t 48), none⟩)])
      (.seq (.ops false [⟨some 50, .bin .eql (.t 15) (.c (.int .i64 4)), none⟩, ⟨some 49, .mv (.t 50), none⟩])
      (.cond (.t 49) (.opsS [(4, 10), (56, 10)] [(0, ⟨some 51, .load (some 3) (.t 9), none⟩), (1, ⟨some 52, .load (some 3) (.t 4), none⟩), (2, ⟨some 53, .load (some 3) (.t 5), none⟩), (3, ⟨some 54, .aeq false [0, 0, 0] (.t 52) (.t 53), none⟩), (4, ⟨some 55, .mv (.t 54), none⟩), (5, ⟨some 56, .faddr 2 (.t 4), some (55, true)⟩), (6, ⟨some 57, .load none (.t 56), some (55, true)⟩), (7, ⟨some 58, .bin .eql (.t 57) (.c (.int .i64 0)), some (55, true)⟩), (8, ⟨some 59, .pick (.t 55) (.t 58) (.c (.bool false)), none⟩), (9, ⟨none, .to 10 (.store 3 (.t 10) (.t 51)), none⟩), (10, ⟨some 11, .mv (.t 59), none⟩)])
       (.skip)))))))))))
  (.seq (.seq (.ops false [⟨some 60, .mv (.t 11), none⟩, ⟨some 61, .un .not (.t 60), none⟩])
  (.cond (.t 61) (.seq (.ops false [⟨some 62, .build [.int .i64 0, .int .i64 0, .int .i64 0] [], none⟩, ⟨none, .store 3 (.t 6) (.t 62), none⟩, ⟨some 7, .mv (.c (.bool false)), none⟩])
   (.ret))
   (.skip)))
  (.seq (.ops false [⟨some 63, .load (some 3) (.t 10), none⟩, ⟨none, .store 3 (.t 6) (.t 63), none⟩, ⟨some 7, .mv (.c (.bool true)), none⟩])
  (.ret))))))),
  [.cell 6 (some 3), .t 7]⟩

def c_noriaref07_BinTy_1 : DCode := (.seq (.seq (.ops false [⟨some 36, .mv (.t 0), none⟩, ⟨some 37, .bin .geq (.t 36) (.c (.int .i64 8)), none⟩, ⟨some 38, .mv (.t 37), none⟩, ⟨some 39, .mv (.t 0), some (38, true)⟩, ⟨some 40, .bin .leq (.t 39) (.c (.int .i64 10)), some (38, true)⟩, ⟨some 41, .pick (.t 38) (.t 40) (.c (.bool false)), none⟩, ⟨some 42, .mv (.t 41), none⟩, ⟨some 43, .mv (.t 9), some (42, true)⟩, ⟨some 44, .pick (.t 42) (.t 43) (.c (.bool false)), none⟩, ⟨some 45, .mv (.t 44), none⟩, ⟨some 46, .mv (.t 0), some (45, false)⟩, ⟨some 47, .bin .geq (.t 46) (.c (.int .i64 13)), some (45, false)⟩, ⟨some 48, .mv (.t 47), some (45, false)⟩, ⟨some 49, .mv (.t 0), some (48, true)⟩, ⟨some 50, .bin .leq (.t 49) (.c (.int .i64 16)), some (48, true)⟩, ⟨some 51, .pick (.t 48) (.t 50) (.c (.bool false)), some (45, false)⟩, ⟨some 52, .mv (.t 51), some (45, false)⟩, ⟨some 53, .mv (.t 8), some (52, true)⟩, ⟨some 54, .pick (.t 52) (.t 53) (.c (.bool false)), some (45, false)⟩, ⟨some 55, .pick (.t 45) (.c (.bool true)) (.t 54), none⟩, ⟨some 56, .mv (.t 55), none⟩, ⟨some 57, .mv (.t 0), some (56, false)⟩, ⟨some 58, .bin .eql (.t 57) (.c (.int .i64 11)), some (56, false)⟩, ⟨some 59, .mv (.t 58), some (56, false)⟩, ⟨some 60, .mv (.t 0), some (59, false)⟩, ⟨some 61, .bin .eql (.t 60) (.c (.int .i64 12)), some (59, false)⟩, ⟨some 62, .pick (.t 59) (.c (.bool true)) (.t 61), some (56, false)⟩, ⟨some 63, .mv (.t 62), some (56, false)⟩, ⟨some 64, .load (some 3) (.t 4), some (63, true)⟩, ⟨some 65, .load (some 3) (.t 5), some (63, true)⟩, ⟨some 66, .aeq false [0, 0, 0] (.t 64) (.t 65), some (63, true)⟩, ⟨some 67, .pick (.t 63) (.t 66) (.c (.bool false)), some (56, false)⟩, ⟨some 68, .mv (.t 67), some (56, false)⟩, ⟨some 69, .faddr 2 (.t 4), some (68, true)⟩, ⟨some 70, .load none (.t 69), some (68, true)⟩, ⟨some 71, .bin .eql (.t 70) (.c (.int .i64 0)), some (68, true)⟩, ⟨some 72, .pick (.t 68) (.t 71) (.c (.bool false)), some (56, false)⟩, ⟨some 73, .pick (.t 56) (.c (.bool true)) (.t 72), none⟩])
  (.cond (.t 73) (.seq (.ops false [⟨some 74, .callP 24 [(.c (.int .i64 2))], none⟩, ⟨none, .store 3 (.t 6) (.t 74), none⟩, ⟨some 7, .mv (.c (.bool true)), none⟩])
   (.ret))
   (.skip)))
  (.seq (.ops false [⟨some 75, .build [.int .i64 0, .int .i64 0, .int .i64 0] [], none⟩, ⟨none, .store 3 (.t 6) (.t 75), none⟩, ⟨some 7, .mv (.c (.bool false)), none⟩])
  (.ret)))

def c_noriaref07_BinTy_2 : DCode := (.seq (.seq (.ops false [⟨some 26, .mv (.t 0), none⟩, ⟨some 27, .bin .geq (.t 26) (.c (.int .i64 3)), none⟩, ⟨some 28, .mv (.t 27), none⟩, ⟨some 29, .mv (.t 0), some (28, true)⟩, ⟨some 30, .bin .leq (.t 29) (.c (.int .i64 7)), some (28, true)⟩, ⟨some 31, .pick (.t 28) (.t 30) (.c (.bool false)), none⟩, ⟨some 32, .mv (.t 31), none⟩, ⟨some 33, .mv (.t 8), some (32, true)⟩, ⟨some 34, .pick (.t 32) (.t 33) (.c (.bool false)), none⟩])
  (.cond (.t 34) (.seq (.ops false [⟨some 35, .callP 24 [(.c (.int .i64 1))], none⟩, ⟨none, .store 3 (.t 6) (.t 35), none⟩, ⟨some 7, .mv (.c (.bool true)), none⟩])
   (.ret))
   (.skip)))
  (.cut [0, 4, 5, 6, 8, 9] (some 3) c_noriaref07_BinTy_1))

/- noria/noriaref07.BinTy -/
def d_noriaref07_BinTy : DFun := ⟨
  .seq (.ops false [⟨some 4, .box (.t 1), none⟩, ⟨some 5, .box (.t 2), none⟩, ⟨some 6, .alloc [.int .i64 0, .int .i64 0, .int .i64 0], none⟩, ⟨some 7, .mv (.c (.bool false)), none⟩])
  (.seq (.opsP [(0, ⟨some 10, .load (some 3) (.t 4), none⟩), (8, ⟨some 18, .load (some 3) (.t 4), none⟩), (1, ⟨some 11, .callP 24 [(.c (.int .i64 1))], none⟩), (2, ⟨some 12, .aeq false [0, 0, 0] (.t 10) (.t 11), none⟩), (3, ⟨some 13, .mv (.t 12), none⟩), (4, ⟨some 14, .load (some 3) (.t 5), some (13, true)⟩), (5, ⟨some 15, .callP 24 [(.c (.int .i64 1))], some (13, true)⟩), (6, ⟨some 16, .aeq false [0, 0, 0] (.t 14) (.t 15), some (13, true)⟩), (7, ⟨some 17, .pick (.t 13) (.t 16) (.c (.bool false)), none⟩), (9, ⟨some 19, .callP 24 [(.c (.int .i64 2))], none⟩), (10, ⟨some 20, .aeq false [0, 0, 0] (.t 18) (.t 19), none⟩), (11, ⟨some 21, .mv (.t 20), none⟩), (12, ⟨some 22, .load (some 3) (.t 5), some (21, true)⟩), (13, ⟨some 23, .callP 24 [(.c (.int .i64 2))], some (21, true)⟩), (14, ⟨some 24, .aeq false [0, 0, 0] (.t 22) (.t 23), some (21, true)⟩), (15, ⟨some 25, .pick (.t 21) (.t 24) (.c (.bool false)), none⟩), (16, ⟨some 8, .mv (.t 17), none⟩), (17, ⟨some 9, .mv (.t 25), none⟩)])
  (.cut [0, 4, 5, 6, 8, 9] (some 3) c_noriaref07_BinTy_2)),
  [.cell 6 (some 3), .t 7]⟩

/- noria/arith.Sign -/
def d_arith_Sign : DFun := ⟨
  .seq (.ops false [⟨some 2, .mv (.c (.str [])), none⟩])
  (.seq (.seq (.ops false [⟨some 3, .mv (.t 0), none⟩])
  (.block 0 (.seq (.seq (.ops false [⟨some 5, .bin .eql (.t 3) (.c (.int .i64 1)), none⟩, ⟨some 4, .mv (.t 5), none⟩])
   (.cond (.t 4) (.skip)
    (.ops false [⟨some 6, .bin .eql (.t 3) (.c (.int .i64 4)), none⟩, ⟨some 4, .mv (.t 6), none⟩])))
   (.cond (.t 4) (.seq (.ops false [⟨some 2, .mv (.c (.str [45])), none⟩])
    (.ret))
    (.seq (.ops false [⟨some 8, .bin .eql (.t 3) (.c (.int .i64 2)), none⟩, ⟨some 7, .mv (.t 8), none⟩])
    (.cond (.t 7) (.seq (.ops false [⟨some 2, .mv (.c (.str [110, 111, 116])), none⟩])
     (.ret))
     (.seq (.ops false [⟨some 10, .bin .eql (.t 3) (.c (.int .i64 3)), none⟩, ⟨some 9, .mv (.t 10), none⟩])
     (.cond (.t 9) (.seq (.ops false [⟨some 2, .mv (.c (.str [43])), none⟩])
      (.ret))
      (.seq (.ops false [⟨some 12, .bin .eql (.t 3) (.c (.int .i64 5)), none⟩, ⟨some 11, .mv (.t 12), none⟩])
      (.cond (.t 11) (.seq (.ops false [⟨some 2, .mv (.c (.str [42])), none⟩])
       (.ret))
       (.seq (.ops false [⟨some 14, .bin .eql (.t 3) (.c (.int .i64 6)), none⟩, ⟨some 13, .mv (.t 14), none⟩])
       (.cond (.t 13) (.seq (.ops false [⟨some 2, .mv (.c (.str [47])), none⟩])
        (.ret))
        (.seq (.ops false [⟨some 16, .bin .eql (.t 3) (.c (.int .i64 7)), none⟩, ⟨some 15, .mv (.t 16), none⟩])
        (.cond (.t 15) (.seq (.ops false [⟨some 2, .mv (.c (.str [109, 111, 100])), none⟩])
         (.ret))
         (.seq (.ops false [⟨some 18, .bin .eql (.t 3) (.c (.int .i64 8)), none⟩, ⟨some 17, .mv (.t 18), none⟩])
         (.cond (.t 17) (.seq (.ops false [⟨some 2, .mv (.c (.str [97, 110, 100])), none⟩])
          (.ret))
          (.seq (.ops false [⟨some 20, .bin .eql (.t 3) (.c (.int .i64 9)), none⟩, ⟨some 19, .mv (.t 20), none⟩])
          (.cond (.t 19) (.seq (.ops false [⟨some 2, .mv (.c (.str [111, 114])), none⟩])
           (.ret))
           (.seq (.ops false [⟨some 22, .bin .eql (.t 3) (.c (.int .i64 10)), none⟩, ⟨some 21, .mv (.t 22), none⟩])
           (.cond (.t 21) (.seq (.ops false [⟨some 2, .mv (.c (.str [120, 111, 114])), none⟩])
            (.ret))
            (.skip)))))))))))))))))))))
  (.seq (.ops false [⟨some 23, .mv (.t 0), none⟩, ⟨some 24, .callP 25 [(.t 23)], none⟩, ⟨some 2, .mv (.t 24), none⟩])
  (.ret))),
  [.t 2]⟩

/- noria/noriaref07.Sign -/
def d_noriaref07_Sign : DFun := ⟨
  .seq (.ops false [⟨some 2, .mv (.c (.str [])), none⟩])
  (.seq (.ops false [⟨some 4, .bslice true [.str []] [(some (.c (.str []))), (some (.c (.str [45]))), (some (.c (.str [110, 111, 116]))), (some (.c (.str [43]))), (some (.c (.str [45]))), (some (.c (.str [42]))), (some (.c (.str [47]))), (some (.c (.str [109, 111, 100]))), (some (.c (.str [97, 110, 100]))), (some (.c (.str [111, 114]))), (some (.c (.str [120, 111, 114]))), (some (.c (.str [61]))), (some (.c (.str [60, 62]))), (some (.c (.str [60]))), (some (.c (.str [60, 61]))), (some (.c (.str [62]))), (some (.c (.str [62, 61])))], none⟩, ⟨some 3, .mv (.t 4), none⟩])
  (.seq (.seq (.ops false [⟨some 5, .mv (.t 0), none⟩, ⟨some 6, .bin .lss (.t 5) (.c (.int .i64 1)), none⟩, ⟨some 7, .mv (.t 6), none⟩, ⟨some 8, .mv (.t 0), some (7, false)⟩, ⟨some 9, .bin .gtr (.t 8) (.c (.int .i64 16)), some (7, false)⟩, ⟨some 10, .pick (.t 7) (.c (.bool true)) (.t 9), none⟩])
  (.cond (.t 10) (.seq (.ops false [⟨some 2, .mv (.c (.str [])), none⟩])
   (.ret))
   (.skip)))
  (.seq (.ops false [⟨some 11, .mv (.t 3), none⟩, ⟨some 12, .mv (.t 0), none⟩, ⟨some 13, .iaddr 1 (.t 11) (.t 12), none⟩, ⟨some 14, .load none (.t 13), none⟩, ⟨some 2, .mv (.t 14), none⟩])
  (.ret)))),
  [.t 2]⟩

/- noria/arith.truth -/
def d_arith_truth : DFun := ⟨
  .seq (.ops false [⟨some 2, .mv (.c (.int .i64 0)), none⟩])
  (.seq (.seq (.ops false [⟨some 3, .mv (.t 0), none⟩])
  (.cond (.t 3) (.seq (.ops false [⟨some 2, .mv (.c (.int .i64 1)), none⟩])
   (.ret))
   (.skip)))
  (.seq (.ops false [⟨some 2, .mv (.c (.int .i64 0)), none⟩])
  (.ret))),
  [.t 2]⟩

/- noria/noriaref07.truth -/
def d_noriaref07_truth : DFun := ⟨
  .seq (.ops false [⟨some 2, .mv (.c (.int .i64 0)), none⟩])
  (.seq (.seq (.ops false [⟨some 3, .mv (.t 0), none⟩])
  (.cond (.t 3) (.seq (.ops false [⟨some 2, .mv (.c (.int .i64 1)), none⟩])
   (.ret))
   (.skip)))
  (.seq (.ops false [⟨some 2, .mv (.c (.int .i64 0)), none⟩])
  (.ret))),
  [.t 2]⟩

/- noria/arith.group -/
def d_arith_group : DFun := ⟨
  .seq (.ops false [⟨some 2, .mv (.c (.int .i64 0)), none⟩])
  (.seq (.ops false [⟨some 3, .mv (.c (.int .i64 0)), none⟩])
  (.seq (.seq (.ops false [⟨some 4, .mv (.t 0), none⟩])
  (.block 0 (.seq (.block 6 (.block 5 (.seq (.block 4 (.seq (.block 3 (.seq (.block 2 (.block 1 (.seq (.seq (.seq (.seq (.ops false [⟨some 6, .bin .eql (.t 4) (.c (.int .i64 3)), none⟩, ⟨some 5, .mv (.t 6), none⟩])
         (.cond (.t 5) (.skip)
          (.seq (.ops false [⟨some 7, .bin .eql (.t 4) (.c (.int .i64 4)), none⟩, ⟨some 5, .mv (.t 7), none⟩])
          (.cond (.t 5) (.skip)
           (.ops false [⟨some 8, .bin .eql (.t 4) (.c (.int .i64 5)), none⟩, ⟨some 5, .mv (.t 8), none⟩])))))
         (.cond (.t 5) (.exit 1)
          (.skip)))
         (.seq (.seq (.seq (.ops false [⟨some 10, .bin .eql (.t 4) (.c (.int .i64 6)), none⟩, ⟨some 9, .mv (.t 10), none⟩])
         (.cond (.t 9) (.skip)
          (.ops false [⟨some 11, .bin .eql (.t 4) (.c (.int .i64 7)), none⟩, ⟨some 9, .mv (.t 11), none⟩])))
         (.cond (.t 9) (.exit 2)
          (.skip)))
         (.seq (.seq (.seq (.ops false [⟨some 13, .bin .eql (.t 4) (.c (.int .i64 8)), none⟩, ⟨some 12, .mv (.t 13), none⟩])
         (.cond (.t 12) (.skip)
          (.seq (.ops false [⟨some 14, .bin .eql (.t 4) (.c (.int .i64 9)), none⟩, ⟨some 12, .mv (.t 14), none⟩])
          (.cond (.t 12) (.skip)
           (.ops false [⟨some 15, .bin .eql (.t 4) (.c (.int .i64 10)), none⟩, ⟨some 12, .mv (.t 15), none⟩])))))
         (.cond (.t 12) (.exit 3)
          (.skip)))
         (.seq (.seq (.seq (.ops false [⟨some 17, .bin .eql (.t 4) (.c (.int .i64 11)), none⟩, ⟨some 16, .mv (.t 17), none⟩])
         (.cond (.t 16) (.skip)
          (.ops false [⟨some 18, .bin .eql (.t 4) (.c (.int .i64 12)), none⟩, ⟨some 16, .mv (.t 18), none⟩])))
         (.cond (.t 16) (.exit 4)
          (.skip)))
         (.seq (.seq (.seq (.ops false [⟨some 20, .bin .eql (.t 4) (.c (.int .i64 13)), none⟩, ⟨some 19, .mv (.t 20), none⟩])
         (.cond (.t 19) (.skip)
          (.ops false [⟨some 21, .bin .eql (.t 4) (.c (.int .i64 14)), none⟩, ⟨some 19, .mv (.t 21), none⟩])))
         (.cond (.t 19) (.exit 5)
          (.skip)))
         (.seq (.seq (.ops false [⟨some 23, .bin .eql (.t 4) (.c (.int .i64 15)), none⟩, ⟨some 22, .mv (.t 23), none⟩])
         (.cond (.t 22) (.skip)
          (.ops false [⟨some 24, .bin .eql (.t 4) (.c (.int .i64 16)), none⟩, ⟨some 22, .mv (.t 24), none⟩])))
         (.cond (.t 22) (.exit 6)
          (.skip))))))))
         (.exit 0))))
       (.seq (.ops false [⟨some 3, .mv (.c (.int .i64 1)), none⟩])
       (.exit 0))))
      (.seq (.ops false [⟨some 3, .mv (.c (.int .i64 2)), none⟩])
      (.exit 0))))
     (.seq (.ops false [⟨some 3, .mv (.c (.int .i64 4)), none⟩])
     (.exit 0)))))
   (.seq (.ops false [⟨some 3, .mv (.c (.int .i64 3)), none⟩])
   (.exit 0)))))
  (.seq (.ops false [⟨some 25, .mv (.t 3), none⟩, ⟨some 2, .mv (.t 25), none⟩])
  (.ret)))),
  [.t 2]⟩

/- noria/arith.number -/
def d_arith_number : DFun := ⟨
  .seq (.ops false [⟨some 6, .mv (.c (.int .i64 0)), none⟩, ⟨some 7, .mv (.c (.int .i64 0)), none⟩])
  (.seq (.seq (.ops false [⟨some 10, .mv (.t 0), none⟩])
  (.block 0 (.seq (.ops false [⟨some 12, .bin .eql (.t 10) (.c (.int .i64 3)), none⟩, ⟨some 11, .mv (.t 12), none⟩])
   (.cond (.t 11) (.seq (.ops false [⟨some 13, .mv (.t 1), none⟩, ⟨some 14, .mv (.t 2), none⟩, ⟨some 15, .bin .add (.t 13) (.t 14), none⟩, ⟨some 6, .mv (.t 15), none⟩, ⟨some 7, .mv (.c (.int .i64 0)), none⟩])
    (.ret))
    (.seq (.ops false [⟨some 17, .bin .eql (.t 10) (.c (.int .i64 4)), none⟩, ⟨some 16, .mv (.t 17), none⟩])
    (.cond (.t 16) (.seq (.ops false [⟨some 18, .mv (.t 1), none⟩, ⟨some 19, .mv (.t 2), none⟩, ⟨some 20, .bin .sub (.t 18) (.t 19), none⟩, ⟨some 6, .mv (.t 20), none⟩, ⟨some 7, .mv (.c (.int .i64 0)), none⟩])
     (.ret))
     (.seq (.ops false [⟨some 22, .bin .eql (.t 10) (.c (.int .i64 5)), none⟩, ⟨some 21, .mv (.t 22), none⟩])
     (.cond (.t 21) (.seq (.ops false [⟨some 23, .mv (.t 1), none⟩, ⟨some 24, .mv (.t 2), none⟩, ⟨some 25, .bin .mul (.t 23) (.t 24), none⟩, ⟨some 6, .mv (.t 25), none⟩, ⟨some 7, .mv (.c (.int .i64 0)), none⟩])
      (.ret))
      (.skip)))))))))
  (.seq (.seq (.ops false [⟨some 26, .mv (.t 2), none⟩, ⟨some 27, .bin .eql (.t 26) (.c (.int .i64 0)), none⟩])
  (.cond (.t 27) (.seq (.ops false [⟨some 6, .mv (.c (.int .i64 0)), none⟩, ⟨some 7, .mv (.c (.int .i64 15)), none⟩])
   (.ret))
   (.skip)))
  (.seq (.ops false [⟨some 29, .mv (.t 1), none⟩, ⟨some 30, .mv (.t 2), none⟩, ⟨some 31, .callP 26 [(.t 29), (.t 30)], none⟩, ⟨some 28, .mv (.t 31), none⟩, ⟨some 32, .extract 0 (.t 28), none⟩, ⟨some 33, .extract 1 (.t 28), none⟩, ⟨some 8, .mv (.t 32), none⟩, ⟨some 9, .mv (.t 33), none⟩])
  (.seq (.seq (.ops false [⟨some 34, .mv (.t 0), none⟩, ⟨some 35, .bin .eql (.t 34) (.c (.int .i64 6)), none⟩])
  (.cond (.t 35) (.seq (.ops false [⟨some 36, .mv (.t 8), none⟩, ⟨some 6, .mv (.t 36), none⟩, ⟨some 7, .mv (.c (.int .i64 0)), none⟩])
   (.ret))
   (.skip)))
  (.seq (.ops false [⟨some 37, .mv (.t 9), none⟩, ⟨some 6, .mv (.t 37), none⟩, ⟨some 7, .mv (.c (.int .i64 0)), none⟩])
  (.ret)))))),
  [.t 6, .t 7]⟩

/- noria/arith.holds -/
def d_arith_holds : DFun := ⟨
  .seq (.ops false [⟨some 6, .mv (.c (.bool false)), none⟩])
  (.seq (.seq (.ops false [⟨some 7, .mv (.t 0), none⟩])
  (.block 0 (.seq (.ops false [⟨some 9, .bin .eql (.t 7) (.c (.int .i64 8)), none⟩, ⟨some 8, .mv (.t 9), none⟩])
   (.cond (.t 8) (.seq (.ops false [⟨some 10, .mv (.t 1), none⟩, ⟨some 11, .bin .neq (.t 10) (.c (.int .i64 0)), none⟩, ⟨some 12, .mv (.t 11), none⟩, ⟨some 13, .mv (.t 2), some (12, true)⟩, ⟨some 14, .bin .neq (.t 13) (.c (.int .i64 0)), some (12, true)⟩, ⟨some 15, .pick (.t 12) (.t 14) (.c (.bool false)), none⟩, ⟨some 6, .mv (.t 15), none⟩])
    (.ret))
    (.seq (.ops false [⟨some 17, .bin .eql (.t 7) (.c (.int .i64 9)), none⟩, ⟨some 16, .mv (.t 17), none⟩])
    (.cond (.t 16) (.seq (.ops false [⟨some 18, .mv (.t 1), none⟩, ⟨some 19, .bin .neq (.t 18) (.c (.int .i64 0)), none⟩, ⟨some 20, .mv (.t 19), none⟩, ⟨some 21, .mv (.t 2), some (20, false)⟩, ⟨some 22, .bin .neq (.t 21) (.c (.int .i64 0)), some (20, false)⟩, ⟨some 23, .pick (.t 20) (.c (.bool true)) (.t 22), none⟩, ⟨some 6, .mv (.t 23), none⟩])
     (.ret))
     (.seq (.ops false [⟨some 25, .bin .eql (.t 7) (.c (.int .i64 10)), none⟩, ⟨some 24, .mv (.t 25), none⟩])
     (.cond (.t 24) (.seq (.ops false [⟨some 26, .mv (.t 1), none⟩, ⟨some 27, .bin .neq (.t 26) (.c (.int .i64 0)), none⟩, ⟨some 28, .mv (.t 2), none⟩, ⟨some 29, .bin .neq (.t 28) (.c (.int .i64 0)), none⟩, ⟨some 30, .beq true (.t 27) (.t 29), none⟩, ⟨some 6, .mv (.t 30), none⟩])
      (.ret))
      (.seq (.ops false [⟨some 32, .bin .eql (.t 7) (.c (.int .i64 11)), none⟩, ⟨some 31, .mv (.t 32), none⟩])
      (.cond (.t 31) (.seq (.ops false [⟨some 33, .mv (.t 1), none⟩, ⟨some 34, .mv (.t 2), none⟩, ⟨some 35, .bin .eql (.t 33) (.t 34), none⟩, ⟨some 6, .mv (.t 35), none⟩])
       (.ret))
       (.seq (.ops false [⟨some 37, .bin .eql (.t 7) (.c (.int .i64 12)), none⟩, ⟨some 36, .mv (.t 37), none⟩])
       (.cond (.t 36) (.seq (.ops false [⟨some 38, .mv (.t 1), none⟩, ⟨some 39, .mv (.t 2), none⟩, ⟨some 40, .bin .neq (.t 38) (.t 39), none⟩, ⟨some 6, .mv (.t 40), none⟩])
        (.ret))
        (.seq (.ops false [⟨some 42, .bin .eql (.t 7) (.c (.int .i64 13)), none⟩, ⟨some 41, .mv (.t 42), none⟩])
        (.cond (.t 41) (.seq (.ops false [⟨some 43, .mv (.t 1), none⟩, ⟨some 44, .mv (.t 2), none⟩, ⟨some 45, .bin .lss (.t 43) (.t 44), none⟩, ⟨some 6, .mv (.t 45), none⟩])
         (.ret))
         (.seq (.ops false [⟨some 47, .bin .eql (.t 7) (.c (.int .i64 14)), none⟩, ⟨some 46, .mv (.t 47), none⟩])
         (.cond (.t 46) (.seq (.ops false [⟨some 48, .mv (.t 1), none⟩, ⟨some 49, .mv (.t 2), none⟩, ⟨some 50, .bin .leq (.t 48) (.t 49), none⟩, ⟨some 6, .mv (.t 50), none⟩])
          (.ret))
          (.seq (.ops false [⟨some 52, .bin .eql (.t 7) (.c (.int .i64 15)), none⟩, ⟨some 51, .mv (.t 52), none⟩])
          (.cond (.t 51) (.seq (.ops false [⟨some 53, .mv (.t 1), none⟩, ⟨some 54, .mv (.t 2), none⟩, ⟨some 55, .bin .gtr (.t 53) (.t 54), none⟩, ⟨some 6, .mv (.t 55), none⟩])
           (.ret))
           (.skip)))))))))))))))))))
  (.seq (.ops false [⟨some 56, .mv (.t 1), none⟩, ⟨some 57, .mv (.t 2), none⟩, ⟨some 58, .bin .geq (.t 56) (.t 57), none⟩, ⟨some 6, .mv (.t 58), none⟩])
  (.ret))),
  [.t 6]⟩

/- noria/noriaref07.number -/
def d_noriaref07_number : DFun := ⟨
  .seq (.ops false [⟨some 6, .mv (.c (.int .i64 0)), none⟩, ⟨some 7, .mv (.c (.int .i64 0)), none⟩])
  (.seq (.seq (.ops false [⟨some 9, .mv (.t 0), none⟩])
  (.block 0 (.seq (.ops false [⟨some 11, .bin .eql (.t 9) (.c (.int .i64 3)), none⟩, ⟨some 10, .mv (.t 11), none⟩])
   (.cond (.t 10) (.seq (.ops false [⟨some 12, .mv (.t 1), none⟩, ⟨some 13, .conv .u64 (.t 12), none⟩, ⟨some 14, .mv (.t 2), none⟩, ⟨some 15, .conv .u64 (.t 14), none⟩, ⟨some 16, .bin .add (.t 13) (.t 15), none⟩, ⟨some 17, .conv .i64 (.t 16), none⟩, ⟨some 6, .mv (.t 17), none⟩, ⟨some 7, .mv (.c (.int .i64 0)), none⟩])
    (.ret))
    (.seq (.ops false [⟨some 19, .bin .eql (.t 9) (.c (.int .i64 4)), none⟩, ⟨some 18, .mv (.t 19), none⟩])
    (.cond (.t 18) (.seq (.ops false [⟨some 20, .mv (.t 1), none⟩, ⟨some 21, .conv .u64 (.t 20), none⟩, ⟨some 22, .mv (.t 2), none⟩, ⟨some 23, .conv .u64 (.t 22), none⟩, ⟨some 24, .bin .sub (.t 21) (.t 23), none⟩, ⟨some 25, .conv .i64 (.t 24), none⟩, ⟨some 6, .mv (.t 25), none⟩, ⟨some 7, .mv (.c (.int .i64 0)), none⟩])
     (.ret))
     (.seq (.ops false [⟨some 27, .bin .eql (.t 9) (.c (.int .i64 5)), none⟩, ⟨some 26, .mv (.t 27), none⟩])
     (.cond (.t 26) (.seq (.ops false [⟨some 28, .mv (.t 1), none⟩, ⟨some 29, .conv .u64 (.t 28), none⟩, ⟨some 30, .mv (.t 2), none⟩, ⟨some 31, .conv .u64 (.t 30), none⟩, ⟨some 32, .bin .mul (.t 29) (.t 31), none⟩, ⟨some 33, .conv .i64 (.t 32), none⟩, ⟨some 6, .mv (.t 33), none⟩, ⟨some 7, .mv (.c (.int .i64 0)), none⟩])
      (.ret))
      (.skip)))))))))
  (.seq (.seq (.ops false [⟨some 34, .mv (.t 2), none⟩, ⟨some 35, .bin .eql (.t 34) (.c (.int .i64 0)), none⟩])
  (.cond (.t 35) (.seq (.ops false [⟨some 6, .mv (.c (.int .i64 0)), none⟩, ⟨some 7, .mv (.c (.int .i64 15)), none⟩])
   (.ret))
   (.skip)))
  (.seq (.ops false [⟨some 36, .mv (.t 1), none⟩, ⟨some 37, .mv (.t 2), none⟩, ⟨some 38, .callP 27 [(.t 36), (.t 37)], none⟩, ⟨some 8, .mv (.t 38), none⟩])
  (.seq (.seq (.ops false [⟨some 39, .mv (.t 0), none⟩, ⟨some 40, .bin .eql (.t 39) (.c (.int .i64 6)), none⟩])
  (.cond (.t 40) (.seq (.ops false [⟨some 41, .mv (.t 8), none⟩, ⟨some 6, .mv (.t 41), none⟩, ⟨some 7, .mv (.c (.int .i64 0)), none⟩])
   (.ret))
   (.skip)))
  (.seq (.ops false [⟨some 42, .mv (.t 1), none⟩, ⟨some 43, .conv .u64 (.t 42), none⟩, ⟨some 44, .mv (.t 2), none⟩, ⟨some 45, .conv .u64 (.t 44), none⟩, ⟨some 46, .mv (.t 8), none⟩, ⟨some 47, .conv .u64 (.t 46), none⟩, ⟨some 48, .bin .mul (.t 45) (.t 47), none⟩, ⟨some 49, .bin .sub (.t 43) (.t 48), none⟩, ⟨some 50, .conv .i64 (.t 49), none⟩, ⟨some 6, .mv (.t 50), none⟩, ⟨some 7, .mv (.c (.int .i64 0)), none⟩])
  (.ret)))))),
  [.t 6, .t 7]⟩

/- noria/noriaref07.plain -/
def d_noriaref07_plain : DFun := ⟨
  .seq (.ops false [⟨some 2, .alloc [.int .i64 0, .int .i64 0, .int .i64 0], none⟩])
  (.seq (.ops false [⟨some 3, .mv (.t 0), none⟩, ⟨some 4, .build [.int .i64 0, .int .i64 0, .int .i64 0] [(0, 1, (.t 3))], none⟩, ⟨none, .store 3 (.t 2) (.t 4), none⟩])
  (.ret)),
  [.cell 2 (some 3)]⟩

/- noria/arith.compare -/
def d_arith_compare : DFun := ⟨
  .seq (.ops false [⟨some 2, .mv (.c (.str [])), none⟩])
  (.seq (.seq (.ops false [⟨some 3, .mv (.t 0), none⟩])
  (.block 0 (.seq (.ops false [⟨some 5, .bin .eql (.t 3) (.c (.int .i64 11)), none⟩, ⟨some 4, .mv (.t 5), none⟩])
   (.cond (.t 4) (.seq (.ops false [⟨some 2, .mv (.c (.str [61])), none⟩])
    (.ret))
    (.seq (.ops false [⟨some 7, .bin .eql (.t 3) (.c (.int .i64 12)), none⟩, ⟨some 6, .mv (.t 7), none⟩])
    (.cond (.t 6) (.seq (.ops false [⟨some 2, .mv (.c (.str [60, 62])), none⟩])
     (.ret))
     (.seq (.ops false [⟨some 9, .bin .eql (.t 3) (.c (.int .i64 13)), none⟩, ⟨some 8, .mv (.t 9), none⟩])
     (.cond (.t 8) (.seq (.ops false [⟨some 2, .mv (.c (.str [60])), none⟩])
      (.ret))
      (.seq (.ops false [⟨some 11, .bin .eql (.t 3) (.c (.int .i64 14)), none⟩, ⟨some 10, .mv (.t 11), none⟩])
      (.cond (.t 10) (.seq (.ops false [⟨some 2, .mv (.c (.str [60, 61])), none⟩])
       (.ret))
       (.seq (.ops false [⟨some 13, .bin .eql (.t 3) (.c (.int .i64 15)), none⟩, ⟨some 12, .mv (.t 13), none⟩])
       (.cond (.t 12) (.seq (.ops false [⟨some 2, .mv (.c (.str [62])), none⟩])
        (.ret))
        (.seq (.ops false [⟨some 15, .bin .eql (.t 3) (.c (.int .i64 16)), none⟩, ⟨some 14, .mv (.t 15), none⟩])
        (.cond (.t 14) (.seq (.ops false [⟨some 2, .mv (.c (.str [62, 61])), none⟩])
         (.ret))
         (.skip)))))))))))))))
  (.seq (.ops false [⟨some 2, .mv (.c (.str [])), none⟩])
  (.ret))),
  [.t 2]⟩

/- noria/arith.divided -/
def d_arith_divided : DFun := ⟨
  .seq (.ops false [⟨some 4, .mv (.c (.int .i64 0)), none⟩, ⟨some 5, .mv (.c (.int .i64 0)), none⟩])
  (.seq (.seq (.ops false [⟨some 6, .mv (.t 1), none⟩, ⟨some 7, .bin .eql (.t 6) (.c (.int .i64 (-1))), none⟩])
  (.cond (.t 7) (.seq (.ops false [⟨some 8, .mv (.t 0), none⟩, ⟨some 9, .un .neg (.t 8), none⟩, ⟨some 4, .mv (.t 9), none⟩, ⟨some 5, .mv (.c (.int .i64 0)), none⟩])
   (.ret))
   (.skip)))
  (.seq (.ops true [⟨some 10, .mv (.t 0), none⟩, ⟨some 11, .mv (.t 1), none⟩, ⟨some 12, .bin .quo (.t 10) (.t 11), none⟩, ⟨some 13, .mv (.t 0), none⟩, ⟨some 14, .mv (.t 1), none⟩, ⟨some 15, .bin .rem (.t 13) (.t 14), none⟩, ⟨some 4, .mv (.t 12), none⟩, ⟨some 5, .mv (.t 15), none⟩])
  (.ret))),
  [.t 4, .t 5]⟩

/- noria/noriaref07.quotient -/
def d_noriaref07_quotient : DFun := ⟨
  .seq (.ops false [⟨some 4, .mv (.c (.int .i64 0)), none⟩])
  (.seq (.ops false [⟨some 6, .mv (.t 0), none⟩, ⟨some 7, .callP 28 [(.t 6)], none⟩, ⟨some 8, .mv (.t 1), none⟩, ⟨some 9, .callP 28 [(.t 8)], none⟩, ⟨some 10, .bin .quo (.t 7) (.t 9), none⟩, ⟨some 5, .mv (.t 10), none⟩])
  (.seq (.seq (.ops false [⟨some 11, .mv (.t 0), none⟩, ⟨some 12, .bin .lss (.t 11) (.c (.int .i64 0)), none⟩, ⟨some 13, .mv (.t 1), none⟩, ⟨some 14, .bin .lss (.t 13) (.c (.int .i64 0)), none⟩, ⟨some 15, .beq true (.t 12) (.t 14), none⟩])
  (.cond (.t 15) (.ops false [⟨some 16, .mv (.t 5), none⟩, ⟨some 17, .bin .sub (.c (.int .u64 0)) (.t 16), none⟩, ⟨some 5, .mv (.t 17), none⟩])
   (.skip)))
  (.seq (.ops false [⟨some 18, .mv (.t 5), none⟩, ⟨some 19, .conv .i64 (.t 18), none⟩, ⟨some 4, .mv (.t 19), none⟩])
  (.ret)))),
  [.t 4]⟩

/- noria/noriaref07.size -/
def d_noriaref07_size : DFun := ⟨
  .seq (.ops false [⟨some 2, .mv (.c (.int .u64 0)), none⟩])
  (.seq (.seq (.ops false [⟨some 3, .mv (.t 0), none⟩, ⟨some 4, .bin .lss (.t 3) (.c (.int .i64 0)), none⟩])
  (.cond (.t 4) (.seq (.ops false [⟨some 5, .mv (.t 0), none⟩, ⟨some 6, .conv .u64 (.t 5), none⟩, ⟨some 7, .bin .sub (.c (.int .u64 0)) (.t 6), none⟩, ⟨some 2, .mv (.t 7), none⟩])
   (.ret))
   (.skip)))
  (.seq (.ops false [⟨some 8, .mv (.t 0), none⟩, ⟨some 9, .conv .u64 (.t 8), none⟩, ⟨some 2, .mv (.t 9), none⟩])
  (.ret))),
  [.t 2]⟩

end Go.Proofs.Ytnifkcjpcppioaa
