/- The data-level reading of the functions. -/
import Derived.Test.YtlbemkkfgijljaaNkZ
set_option linter.all false
namespace Go.Proofs.Ytlbemkkfgijljaa
open Go.Nk

/- noria/norialaw23.MemPuts -/
def d_norialaw23_MemPuts : DFun := ⟨
  .seq (.ops false [⟨some 6, .mv (.c (.bool false)), none⟩])
  (.seq (.seq (.ops false [⟨some 13, .mv (.t 0), none⟩, ⟨some 14, .callP 7 [(.t 13)], none⟩, ⟨some 15, .un .not (.t 14), none⟩, ⟨some 16, .mv (.t 15), none⟩, ⟨some 17, .mv (.t 1), some (16, false)⟩, ⟨some 18, .lenS (.t 17), some (16, false)⟩, ⟨some 19, .bin .gtr (.t 18) (.c (.int .i64 300)), some (16, false)⟩, ⟨some 20, .pick (.t 16) (.c (.bool true)) (.t 19), none⟩, ⟨some 21, .mv (.t 20), none⟩, ⟨some 22, .mv (.t 2), some (21, false)⟩, ⟨some 23, .len (.t 22), some (21, false)⟩, ⟨some 24, .bin .gtr (.t 23) (.c (.int .i64 20)), some (21, false)⟩, ⟨some 25, .pick (.t 21) (.c (.bool true)) (.t 24), none⟩])
  (.cond (.t 25) (.seq (.ops false [⟨some 26, .callP 8 [], none⟩, ⟨some 6, .mv (.t 26), none⟩])
   (.ret))
   (.skip)))
  (.seq (.ops false [⟨some 27, .mv (.t 0), none⟩, ⟨some 28, .mv (.t 1), none⟩, ⟨some 29, .mv (.t 2), none⟩, ⟨some 30, .callP 9 [(.t 27), (.t 28), (.t 29)], none⟩, ⟨some 7, .mv (.t 30), none⟩])
  (.seq (.seq (.ops false [⟨some 31, .mv (.t 7), none⟩, ⟨some 32, .mv (.t 0), none⟩, ⟨some 33, .mv (.t 1), none⟩, ⟨some 34, .mv (.t 2), none⟩, ⟨some 35, .callP 11 [(.t 32), (.t 33), (.t 34)], none⟩, ⟨some 36, .callP 10 [(.t 31), (.t 35)], none⟩, ⟨some 37, .un .not (.t 36), none⟩, ⟨some 38, .mv (.t 37), none⟩, ⟨some 39, .mv (.t 7), some (38, false)⟩, ⟨some 40, .len (.t 39), some (38, false)⟩, ⟨some 41, .mv (.t 0), some (38, false)⟩, ⟨some 42, .len (.t 41), some (38, false)⟩, ⟨some 43, .bin .neq (.t 40) (.t 42), some (38, false)⟩, ⟨some 44, .pick (.t 38) (.c (.bool true)) (.t 43), none⟩])
  (.cond (.t 44) (.seq (.ops false [⟨some 6, .mv (.c (.bool false)), none⟩])
   (.ret))
   (.skip)))
  (.seq (.ops false [⟨some 46, .mv (.t 0), none⟩, ⟨some 47, .mv (.t 1), none⟩, ⟨some 48, .callP 12 [(.t 46), (.t 47)], none⟩, ⟨some 45, .mv (.t 48), none⟩, ⟨some 49, .extract 0 (.t 45), none⟩, ⟨some 50, .extract 1 (.t 45), none⟩, ⟨some 8, .mv (.t 49), none⟩, ⟨some 9, .mv (.t 50), none⟩])
  (.seq (.ops false [⟨some 52, .mv (.t 7), none⟩, ⟨some 53, .mv (.t 1), none⟩, ⟨some 54, .callP 12 [(.t 52), (.t 53)], none⟩, ⟨some 51, .mv (.t 54), none⟩, ⟨some 55, .extract 0 (.t 51), none⟩, ⟨some 56, .extract 1 (.t 51), none⟩, ⟨some 10, .mv (.t 55), none⟩, ⟨some 11, .mv (.t 56), none⟩])
  (.seq (.seq (.ops false [⟨some 57, .mv (.t 11), none⟩, ⟨some 58, .mv (.t 9), none⟩, ⟨some 59, .beq true (.t 57) (.t 58), none⟩, ⟨some 60, .mv (.t 59), none⟩, ⟨some 61, .mv (.t 11), some (60, false)⟩, ⟨some 62, .mv (.t 61), some (60, false)⟩, ⟨some 63, .mv (.t 10), some (62, true)⟩, ⟨some 64, .mv (.t 2), some (62, true)⟩, ⟨some 65, .callP 13 [(.t 63), (.t 64)], some (62, true)⟩, ⟨some 66, .un .not (.t 65), some (62, true)⟩, ⟨some 67, .pick (.t 62) (.t 66) (.c (.bool false)), some (60, false)⟩, ⟨some 68, .pick (.t 60) (.c (.bool true)) (.t 67), none⟩])
  (.cond (.t 68) (.seq (.ops false [⟨some 6, .mv (.c (.bool false)), none⟩])
   (.ret))
   (.skip)))
  (.seq (.seq (.ops false [⟨some 12, .mv (.c (.int .i64 0)), none⟩])
  (.block 0 (.loop [0, 1, 7, 12] (some 0) (.seq (.seq (.ops false [⟨some 69, .mv (.t 12), none⟩, ⟨some 70, .mv (.t 0), none⟩, ⟨some 71, .len (.t 70), none⟩, ⟨some 72, .bin .lss (.t 69) (.t 71), none⟩])
    (.cond (.t 72) (.skip)
     (.exit 0)))
    (.seq (.block 1 (.seq (.ops true [⟨some 75, .mv (.t 0), none⟩, ⟨some 76, .mv (.t 12), none⟩, ⟨some 77, .iaddr 2 (.t 75) (.t 76), none⟩, ⟨some 78, .faddr 0 (.t 77), none⟩, ⟨some 79, .load none (.t 78), none⟩, ⟨some 80, .mv (.t 1), none⟩, ⟨some 81, .bin .neq (.t 79) (.t 80), none⟩, ⟨some 82, .mv (.t 81), none⟩, ⟨some 83, .mv (.t 7), some (82, true)⟩, ⟨some 84, .mv (.t 12), some (82, true)⟩, ⟨some 85, .iaddr 2 (.t 83) (.t 84), some (82, true)⟩, ⟨some 86, .faddr 1 (.t 85), some (82, true)⟩, ⟨some 87, .load none (.t 86), some (82, true)⟩, ⟨some 88, .mv (.t 0), some (82, true)⟩, ⟨some 89, .mv (.t 12), some (82, true)⟩, ⟨some 90, .iaddr 2 (.t 88) (.t 89), some (82, true)⟩, ⟨some 91, .faddr 1 (.t 90), some (82, true)⟩, ⟨some 92, .load none (.t 91), some (82, true)⟩, ⟨some 93, .callP 13 [(.t 87), (.t 92)], some (82, true)⟩, ⟨some 94, .un .not (.t 93), some (82, true)⟩, ⟨some 95, .pick (.t 82) (.t 94) (.c (.bool false)), none⟩])
     (.cond (.t 95) (.seq (.ops false [⟨some 6, .mv (.c (.bool false)), none⟩])
      (.ret))
      (.skip))))
    (.ops false [⟨some 73, .mv (.t 12), none⟩, ⟨some 74, .bin .add (.t 73) (.c (.int .i64 1)), none⟩, ⟨some 12, .mv (.t 74), none⟩]))))))
  (.seq (.ops false [⟨some 96, .callP 8 [], none⟩, ⟨some 6, .mv (.t 96), none⟩])
  (.ret))))))))),
  [.t 6]⟩

/- noria/norialaw23.MemFinds -/
def d_norialaw23_MemFinds : DFun := ⟨
  .seq (.ops false [⟨some 6, .mv (.c (.bool false)), none⟩])
  (.seq (.seq (.ops false [⟨some 11, .mv (.t 0), none⟩, ⟨some 12, .callP 7 [(.t 11)], none⟩, ⟨some 13, .un .not (.t 12), none⟩, ⟨some 14, .mv (.t 13), none⟩, ⟨some 15, .mv (.t 2), some (14, false)⟩, ⟨some 16, .callP 7 [(.t 15)], some (14, false)⟩, ⟨some 17, .un .not (.t 16), some (14, false)⟩, ⟨some 18, .pick (.t 14) (.c (.bool true)) (.t 17), none⟩, ⟨some 19, .mv (.t 18), none⟩, ⟨some 20, .mv (.t 1), some (19, false)⟩, ⟨some 21, .lenS (.t 20), some (19, false)⟩, ⟨some 22, .bin .gtr (.t 21) (.c (.int .i64 300)), some (19, false)⟩, ⟨some 23, .pick (.t 19) (.c (.bool true)) (.t 22), none⟩])
  (.cond (.t 23) (.seq (.ops false [⟨some 24, .callP 8 [], none⟩, ⟨some 6, .mv (.t 24), none⟩])
   (.ret))
   (.skip)))
  (.seq (.ops false [⟨some 26, .mv (.t 0), none⟩, ⟨some 27, .mv (.t 1), none⟩, ⟨some 28, .callP 12 [(.t 26), (.t 27)], none⟩, ⟨some 25, .mv (.t 28), none⟩, ⟨some 29, .extract 0 (.t 25), none⟩, ⟨some 30, .extract 1 (.t 25), none⟩, ⟨some 7, .mv (.t 29), none⟩, ⟨some 8, .mv (.t 30), none⟩])
  (.seq (.ops false [⟨some 32, .mv (.t 0), none⟩, ⟨some 33, .mv (.t 1), none⟩, ⟨some 34, .callP 14 [(.t 32), (.t 33)], none⟩, ⟨some 31, .mv (.t 34), none⟩, ⟨some 35, .extract 0 (.t 31), none⟩, ⟨some 36, .extract 1 (.t 31), none⟩, ⟨some 9, .mv (.t 35), none⟩, ⟨some 10, .mv (.t 36), none⟩])
  (.seq (.ops false [⟨some 37, .mv (.t 7), none⟩, ⟨some 38, .mv (.t 9), none⟩, ⟨some 39, .callP 13 [(.t 37), (.t 38)], none⟩, ⟨some 40, .mv (.t 39), none⟩, ⟨some 41, .mv (.t 8), some (40, true)⟩, ⟨some 42, .mv (.t 10), some (40, true)⟩, ⟨some 43, .beq false (.t 41) (.t 42), some (40, true)⟩, ⟨some 44, .pick (.t 40) (.t 43) (.c (.bool false)), none⟩, ⟨some 45, .mv (.t 44), none⟩, ⟨some 46, .mv (.t 0), some (45, true)⟩, ⟨some 47, .mv (.t 1), some (45, true)⟩, ⟨some 48, .callP 15 [(.t 46), (.t 47)], some (45, true)⟩, ⟨some 49, .mv (.t 0), some (45, true)⟩, ⟨some 50, .mv (.t 1), some (45, true)⟩, ⟨some 51, .callP 16 [(.t 49), (.t 50)], some (45, true)⟩, ⟨some 52, .callP 10 [(.t 48), (.t 51)], some (45, true)⟩, ⟨some 53, .pick (.t 45) (.t 52) (.c (.bool false)), none⟩, ⟨some 54, .mv (.t 53), none⟩, ⟨some 55, .mv (.t 0), some (54, true)⟩, ⟨some 56, .mv (.t 1), some (54, true)⟩, ⟨some 57, .mv (.t 2), some (54, true)⟩, ⟨some 58, .callP 17 [(.t 55), (.t 56), (.t 57)], some (54, true)⟩, ⟨some 59, .mv (.t 0), some (54, true)⟩, ⟨some 60, .mv (.t 1), some (54, true)⟩, ⟨some 61, .mv (.t 2), some (54, true)⟩, ⟨some 62, .callP 18 [(.t 59), (.t 60), (.t 61)], some (54, true)⟩, ⟨some 63, .callP 10 [(.t 58), (.t 62)], some (54, true)⟩, ⟨some 64, .pick (.t 54) (.t 63) (.c (.bool false)), none⟩, ⟨some 65, .mv (.t 64), none⟩, ⟨some 66, .mv (.t 0), some (65, true)⟩, ⟨some 67, .mv (.t 2), some (65, true)⟩, ⟨some 68, .callP 19 [(.t 66), (.t 67)], some (65, true)⟩, ⟨some 69, .mv (.t 0), some (65, true)⟩, ⟨some 70, .mv (.t 2), some (65, true)⟩, ⟨some 71, .callP 10 [(.t 69), (.t 70)], some (65, true)⟩, ⟨some 72, .beq false (.t 68) (.t 71), some (65, true)⟩, ⟨some 73, .pick (.t 65) (.t 72) (.c (.bool false)), none⟩, ⟨some 74, .mv (.t 73), none⟩, ⟨some 75, .callP 8 [], some (74, true)⟩, ⟨some 76, .pick (.t 74) (.t 75) (.c (.bool false)), none⟩, ⟨some 6, .mv (.t 76), none⟩])
  (.ret))))),
  [.t 6]⟩

/- noria/norialaw23.MemStarts -/
def d_norialaw23_MemStarts : DFun := ⟨
  .seq (.ops false [⟨some 2, .bref (.t 0), none⟩, ⟨some 4, .mv (.c (.bool false)), none⟩])
  (.seq (.seq (.ops false [⟨some 13, .load (some 2) (.t 2), none⟩, ⟨some 14, .callP 20 [(.t 13)], none⟩, ⟨some 15, .un .not (.t 14), none⟩])
  (.cond (.t 15) (.seq (.ops false [⟨some 16, .callP 8 [], none⟩, ⟨some 4, .mv (.t 16), none⟩])
   (.ret))
   (.skip)))
  (.seq (.ops false [⟨some 18, .load (some 2) (.t 2), none⟩, ⟨some 19, .mv (.t 1), none⟩, ⟨some 20, .callP 21 [(.t 18), (.t 19)], none⟩, ⟨some 17, .mv (.t 20), none⟩, ⟨some 21, .extract 0 (.t 17), none⟩, ⟨some 22, .extract 1 (.t 17), none⟩, ⟨some 5, .mv (.t 21), none⟩, ⟨some 6, .mv (.t 22), none⟩])
  (.seq (.ops false [⟨some 24, .load (some 2) (.t 2), none⟩, ⟨some 25, .mv (.t 1), none⟩, ⟨some 26, .callP 22 [(.t 24), (.t 25)], none⟩, ⟨some 23, .mv (.t 26), none⟩, ⟨some 27, .extract 0 (.t 23), none⟩, ⟨some 28, .extract 1 (.t 23), none⟩, ⟨some 7, .mv (.t 27), none⟩, ⟨some 8, .mv (.t 28), none⟩])
  (.seq (.ops false [⟨some 30, .load (some 2) (.t 2), none⟩, ⟨some 31, .mv (.t 1), none⟩, ⟨some 32, .callP 23 [(.t 30), (.t 31)], none⟩, ⟨some 29, .mv (.t 32), none⟩, ⟨some 33, .extract 0 (.t 29), none⟩, ⟨some 34, .extract 1 (.t 29), none⟩, ⟨some 9, .mv (.t 33), none⟩, ⟨some 10, .mv (.t 34), none⟩])
  (.seq (.ops false [⟨some 36, .load (some 2) (.t 2), none⟩, ⟨some 37, .mv (.t 1), none⟩, ⟨some 38, .callP 24 [(.t 36), (.t 37)], none⟩, ⟨some 35, .mv (.t 38), none⟩, ⟨some 39, .extract 0 (.t 35), none⟩, ⟨some 40, .extract 1 (.t 35), none⟩, ⟨some 11, .mv (.t 39), none⟩, ⟨some 12, .mv (.t 40), none⟩])
  (.seq (.ops false [⟨some 41, .mv (.t 5), none⟩, ⟨some 42, .mv (.t 7), none⟩, ⟨some 43, .bin .eql (.t 41) (.t 42), none⟩, ⟨some 44, .mv (.t 43), none⟩, ⟨some 45, .mv (.t 6), some (44, true)⟩, ⟨some 46, .mv (.t 8), some (44, true)⟩, ⟨some 47, .bin .eql (.t 45) (.t 46), some (44, true)⟩, ⟨some 48, .pick (.t 44) (.t 47) (.c (.bool false)), none⟩, ⟨some 49, .mv (.t 48), none⟩, ⟨some 50, .mv (.t 9), some (49, true)⟩, ⟨some 51, .mv (.t 11), some (49, true)⟩, ⟨some 52, .callP 10 [(.t 50), (.t 51)], some (49, true)⟩, ⟨some 53, .pick (.t 49) (.t 52) (.c (.bool false)), none⟩, ⟨some 54, .mv (.t 53), none⟩, ⟨some 55, .mv (.t 10), some (54, true)⟩, ⟨some 56, .mv (.t 12), some (54, true)⟩, ⟨some 57, .beq false (.t 55) (.t 56), some (54, true)⟩, ⟨some 58, .pick (.t 54) (.t 57) (.c (.bool false)), none⟩, ⟨some 59, .mv (.t 58), none⟩, ⟨some 60, .mv (.t 9), some (59, true)⟩, ⟨some 61, .mv (.t 11), some (59, true)⟩, ⟨some 62, .callP 19 [(.t 60), (.t 61)], some (59, true)⟩, ⟨some 63, .pick (.t 59) (.t 62) (.c (.bool false)), none⟩, ⟨some 64, .mv (.t 63), none⟩, ⟨some 65, .callP 8 [], some (64, true)⟩, ⟨some 66, .pick (.t 64) (.t 65) (.c (.bool false)), none⟩, ⟨some 4, .mv (.t 66), none⟩])
  (.ret))))))),
  [.t 4]⟩

/- noria/norialaw23.MemOnce -/
def d_norialaw23_MemOnce : DFun := ⟨
  .seq (.ops false [⟨some 3, .bref (.t 0), none⟩, ⟨some 6, .mv (.c (.bool false)), none⟩])
  (.seq (.seq (.ops false [⟨some 12, .load (some 2) (.t 3), none⟩, ⟨some 13, .callP 20 [(.t 12)], none⟩, ⟨some 14, .un .not (.t 13), none⟩, ⟨some 15, .mv (.t 14), none⟩, ⟨some 16, .mv (.t 2), some (15, false)⟩, ⟨some 17, .lenS (.t 16), some (15, false)⟩, ⟨some 18, .bin .gtr (.t 17) (.c (.int .i64 300)), some (15, false)⟩, ⟨some 19, .pick (.t 15) (.c (.bool true)) (.t 18), none⟩])
  (.cond (.t 19) (.seq (.ops false [⟨some 20, .callP 8 [], none⟩, ⟨some 6, .mv (.t 20), none⟩])
   (.ret))
   (.skip)))
  (.seq (.ops false [⟨some 22, .load (some 2) (.t 3), none⟩, ⟨some 23, .mv (.t 1), none⟩, ⟨some 24, .callP 23 [(.t 22), (.t 23)], none⟩, ⟨some 21, .mv (.t 24), none⟩, ⟨some 25, .extract 0 (.t 21), none⟩, ⟨some 26, .extract 1 (.t 21), none⟩, ⟨some 7, .mv (.t 25), none⟩, ⟨some 8, .mv (.t 26), none⟩])
  (.seq (.seq (.ops false [⟨some 27, .mv (.t 8), none⟩, ⟨some 28, .un .not (.t 27), none⟩])
  (.cond (.t 28) (.seq (.ops false [⟨some 29, .mv (.t 7), none⟩, ⟨some 30, .len (.t 29), none⟩, ⟨some 31, .bin .eql (.t 30) (.c (.int .i64 0)), none⟩, ⟨some 32, .mv (.t 31), none⟩, ⟨some 33, .callP 8 [], some (32, true)⟩, ⟨some 34, .pick (.t 32) (.t 33) (.c (.bool false)), none⟩, ⟨some 6, .mv (.t 34), none⟩])
   (.ret))
   (.skip)))
  (.seq (.seq (.ops false [⟨some 9, .mv (.c (.int .i64 0)), none⟩])
  (.block 0 (.loop [2, 3, 7, 9] (some 0) (.seq (.seq (.ops false [⟨some 35, .mv (.t 9), none⟩, ⟨some 36, .faddr 1 (.t 3), none⟩, ⟨some 37, .load none (.t 36), none⟩, ⟨some 38, .len (.t 37), none⟩, ⟨some 39, .bin .lss (.t 35) (.t 38), none⟩])
    (.cond (.t 39) (.skip)
     (.exit 0)))
    (.seq (.block 1 (.seq (.ops false [⟨some 42, .faddr 1 (.t 3), none⟩, ⟨some 43, .load none (.t 42), none⟩, ⟨some 44, .mv (.t 9), none⟩, ⟨some 45, .iaddr 5 (.t 43) (.t 44), none⟩, ⟨some 46, .load (some 5) (.t 45), none⟩, ⟨some 47, .callP 25 [(.t 46)], none⟩, ⟨some 48, .un .not (.t 47), none⟩])
     (.cond (.t 48) (.seq (.ops false [⟨some 49, .callP 8 [], none⟩, ⟨some 6, .mv (.t 49), none⟩])
      (.ret))
      (.skip))))
    (.ops false [⟨some 40, .mv (.t 9), none⟩, ⟨some 41, .bin .add (.t 40) (.c (.int .i64 1)), none⟩, ⟨some 9, .mv (.t 41), none⟩]))))))
  (.seq (.seq (.ops false [⟨some 10, .mv (.c (.int .i64 0)), none⟩])
  (.block 2 (.loop [2, 7, 10] (some 0) (.seq (.seq (.ops false [⟨some 50, .mv (.t 10), none⟩, ⟨some 51, .mv (.t 7), none⟩, ⟨some 52, .len (.t 51), none⟩, ⟨some 53, .bin .lss (.t 50) (.t 52), none⟩])
    (.cond (.t 53) (.skip)
     (.exit 2)))
    (.seq (.block 3 (.seq (.ops false [⟨some 11, .mv (.c (.int .i64 0)), none⟩])
     (.block 4 (.loop [2, 7, 10, 11] (some 0) (.seq (.seq (.ops false [⟨some 56, .mv (.t 11), none⟩, ⟨some 57, .mv (.t 10), none⟩, ⟨some 58, .bin .lss (.t 56) (.t 57), none⟩])
       (.cond (.t 58) (.skip)
        (.exit 4)))
       (.seq (.block 5 (.seq (.ops true [⟨some 61, .mv (.t 7), none⟩, ⟨some 62, .mv (.t 10), none⟩, ⟨some 63, .iaddr 2 (.t 61) (.t 62), none⟩, ⟨some 64, .faddr 0 (.t 63), none⟩, ⟨some 65, .load none (.t 64), none⟩, ⟨some 66, .mv (.t 7), none⟩, ⟨some 67, .mv (.t 11), none⟩, ⟨some 68, .iaddr 2 (.t 66) (.t 67), none⟩, ⟨some 69, .faddr 0 (.t 68), none⟩, ⟨some 70, .load none (.t 69), none⟩, ⟨some 71, .bin .eql (.t 65) (.t 70), none⟩])
        (.cond (.t 71) (.seq (.ops false [⟨some 6, .mv (.c (.bool false)), none⟩])
         (.ret))
         (.skip))))
       (.ops false [⟨some 59, .mv (.t 11), none⟩, ⟨some 60, .bin .add (.t 59) (.c (.int .i64 1)), none⟩, ⟨some 11, .mv (.t 60), none⟩])))))))
    (.ops false [⟨some 54, .mv (.t 10), none⟩, ⟨some 55, .bin .add (.t 54) (.c (.int .i64 1)), none⟩, ⟨some 10, .mv (.t 55), none⟩]))))))
  (.seq (.ops false [⟨some 72, .mv (.t 7), none⟩, ⟨some 73, .mv (.t 2), none⟩, ⟨some 74, .mv (.t 7), none⟩, ⟨some 75, .mv (.t 2), none⟩, ⟨some 76, .callP 15 [(.t 74), (.t 75)], none⟩, ⟨some 77, .callP 17 [(.t 72), (.t 73), (.t 76)], none⟩, ⟨some 78, .mv (.t 7), none⟩, ⟨some 79, .callP 10 [(.t 77), (.t 78)], none⟩, ⟨some 80, .mv (.t 79), none⟩, ⟨some 81, .callP 8 [], some (80, true)⟩, ⟨some 82, .pick (.t 80) (.t 81) (.c (.bool false)), none⟩, ⟨some 6, .mv (.t 82), none⟩])
  (.ret))))))),
  [.t 6]⟩

/- noria/noriaref23.Few -/
def d_noriaref23_Few : DFun := ⟨
  .seq (.ops false [⟨some 2, .mv (.c (.bool false)), none⟩])
  (.seq (.seq (.ops false [⟨some 3, .mv (.c (.int .i64 0)), none⟩])
  (.block 0 (.loop [0, 3] (some 0) (.seq (.seq (.ops false [⟨some 4, .mv (.t 3), none⟩, ⟨some 5, .mv (.t 0), none⟩, ⟨some 6, .len (.t 5), none⟩, ⟨some 7, .bin .lss (.t 4) (.t 6), none⟩, ⟨some 8, .mv (.t 7), none⟩, ⟨some 9, .mv (.t 3), some (8, true)⟩, ⟨some 10, .bin .lss (.t 9) (.c (.int .i64 200)), some (8, true)⟩, ⟨some 11, .pick (.t 8) (.t 10) (.c (.bool false)), none⟩])
    (.cond (.t 11) (.skip)
     (.exit 0)))
    (.seq (.block 1 (.seq (.ops false [⟨some 14, .mv (.t 0), none⟩, ⟨some 15, .mv (.t 3), none⟩, ⟨some 16, .iaddr 2 (.t 14) (.t 15), none⟩, ⟨some 17, .faddr 0 (.t 16), none⟩, ⟨some 18, .load none (.t 17), none⟩, ⟨some 19, .lenS (.t 18), none⟩, ⟨some 20, .bin .gtr (.t 19) (.c (.int .i64 200)), none⟩, ⟨some 21, .mv (.t 20), none⟩, ⟨some 22, .mv (.t 0), some (21, false)⟩, ⟨some 23, .mv (.t 3), some (21, false)⟩, ⟨some 24, .iaddr 2 (.t 22) (.t 23), some (21, false)⟩, ⟨some 25, .faddr 1 (.t 24), some (21, false)⟩, ⟨some 26, .load none (.t 25), some (21, false)⟩, ⟨some 27, .len (.t 26), some (21, false)⟩, ⟨some 28, .bin .gtr (.t 27) (.c (.int .i64 20)), some (21, false)⟩, ⟨some 29, .pick (.t 21) (.c (.bool true)) (.t 28), none⟩])
     (.cond (.t 29) (.seq (.ops false [⟨some 2, .mv (.c (.bool false)), none⟩])
      (.ret))
      (.skip))))
    (.ops false [⟨some 12, .mv (.t 3), none⟩, ⟨some 13, .bin .add (.t 12) (.c (.int .i64 1)), none⟩, ⟨some 3, .mv (.t 13), none⟩]))))))
  (.seq (.ops false [⟨some 30, .mv (.t 0), none⟩, ⟨some 31, .len (.t 30), none⟩, ⟨some 32, .bin .leq (.t 31) (.c (.int .i64 150)), none⟩, ⟨some 2, .mv (.t 32), none⟩])
  (.ret))),
  [.t 2]⟩

/- noria/norialaw23.live -/
def d_norialaw23_live : DFun := ⟨
  .seq (.ops false [⟨some 0, .mv (.c (.bool false)), none⟩])
  (.seq (.ops false [⟨some 2, .bslice true [.int .i64 0] [(some (.c (.int .i64 1)))], none⟩, ⟨some 3, .build [.str [], .nil] [(0, 1, (.c (.str [97, 47, 98]))), (1, 1, (.t 2))], none⟩, ⟨some 4, .bslice true [.int .i64 0] [(some (.c (.int .i64 2)))], none⟩, ⟨some 5, .build [.str [], .nil] [(0, 1, (.c (.str [97]))), (1, 1, (.t 4))], none⟩, ⟨some 6, .bslice true [.int .i64 0] [(some (.c (.int .i64 3)))], none⟩, ⟨some 7, .build [.str [], .nil] [(0, 1, (.c (.str [97, 47, 99, 47, 100]))), (1, 1, (.t 6))], none⟩, ⟨some 8, .bslice true [.str [], .nil] [(some (.t 3)), (some (.t 5)), (some (.t 7))], none⟩, ⟨some 1, .mv (.t 8), none⟩])
  (.seq (.ops false [⟨some 9, .mv (.t 1), none⟩, ⟨some 10, .callP 15 [(.t 9), (.c (.str [97]))], none⟩, ⟨some 11, .bslice true [.int .i64 0] [(some (.c (.int .i64 1)))], none⟩, ⟨some 12, .build [.str [], .nil] [(0, 1, (.c (.str [98]))), (1, 1, (.t 11))], none⟩, ⟨some 13, .bslice true [.int .i64 0] [(some (.c (.int .i64 3)))], none⟩, ⟨some 14, .build [.str [], .nil] [(0, 1, (.c (.str [99, 47, 100]))), (1, 1, (.t 13))], none⟩, ⟨some 15, .bslice true [.str [], .nil] [(some (.t 12)), (some (.t 14))], none⟩, ⟨some 16, .callP 19 [(.t 10), (.t 15)], none⟩, ⟨some 0, .mv (.t 16), none⟩])
  (.ret))),
  [.t 0]⟩

/- noria/mem.Put -/
def d_mem_Put : DFun := ⟨
  .seq (.ops false [⟨some 4, .bref (.t 1), none⟩, ⟨some 5, .bref (.t 2), none⟩, ⟨some 6, .mv (.c (.nil)), none⟩])
  (.seq (.ops false [⟨some 7, .mv (.t 0), none⟩, ⟨some 8, .mkfun 27 [(.t 4), (.t 5)], none⟩, ⟨some 9, .callP 26 [(.t 7), (.t 8)], none⟩, ⟨some 6, .mv (.t 9), none⟩])
  (.ret)),
  [.t 6]⟩

/- noria/noriaref23.Same -/
def d_noriaref23_Same : DFun := ⟨
  .seq (.ops false [⟨some 4, .mv (.c (.bool false)), none⟩])
  (.seq (.seq (.ops false [⟨some 6, .mv (.t 0), none⟩, ⟨some 7, .len (.t 6), none⟩, ⟨some 8, .mv (.t 1), none⟩, ⟨some 9, .len (.t 8), none⟩, ⟨some 10, .bin .neq (.t 7) (.t 9), none⟩])
  (.cond (.t 10) (.seq (.ops false [⟨some 4, .mv (.c (.bool false)), none⟩])
   (.ret))
   (.skip)))
  (.seq (.seq (.ops false [⟨some 5, .mv (.c (.int .i64 0)), none⟩])
  (.block 0 (.loop [0, 1, 5] (some 0) (.seq (.seq (.ops false [⟨some 11, .mv (.t 5), none⟩, ⟨some 12, .mv (.t 0), none⟩, ⟨some 13, .len (.t 12), none⟩, ⟨some 14, .bin .lss (.t 11) (.t 13), none⟩])
    (.cond (.t 14) (.skip)
     (.exit 0)))
    (.seq (.block 1 (.seq (.ops true [⟨some 17, .mv (.t 0), none⟩, ⟨some 18, .mv (.t 5), none⟩, ⟨some 19, .iaddr 2 (.t 17) (.t 18), none⟩, ⟨some 20, .faddr 0 (.t 19), none⟩, ⟨some 21, .load none (.t 20), none⟩, ⟨some 22, .mv (.t 1), none⟩, ⟨some 23, .mv (.t 5), none⟩, ⟨some 24, .iaddr 2 (.t 22) (.t 23), none⟩, ⟨some 25, .faddr 0 (.t 24), none⟩, ⟨some 26, .load none (.t 25), none⟩, ⟨some 27, .bin .neq (.t 21) (.t 26), none⟩, ⟨some 28, .mv (.t 27), none⟩, ⟨some 29, .mv (.t 0), some (28, false)⟩, ⟨some 30, .mv (.t 5), some (28, false)⟩, ⟨some 31, .iaddr 2 (.t 29) (.t 30), some (28, false)⟩, ⟨some 32, .faddr 1 (.t 31), some (28, false)⟩, ⟨some 33, .load none (.t 32), some (28, false)⟩, ⟨some 34, .mv (.t 1), some (28, false)⟩, ⟨some 35, .mv (.t 5), some (28, false)⟩, ⟨some 36, .iaddr 2 (.t 34) (.t 35), some (28, false)⟩, ⟨some 37, .faddr 1 (.t 36), some (28, false)⟩, ⟨some 38, .load none (.t 37), some (28, false)⟩, ⟨some 39, .callP 13 [(.t 33), (.t 38)], some (28, false)⟩, ⟨some 40, .un .not (.t 39), some (28, false)⟩, ⟨some 41, .pick (.t 28) (.c (.bool true)) (.t 40), none⟩])
     (.cond (.t 41) (.seq (.ops false [⟨some 4, .mv (.c (.bool false)), none⟩])
      (.ret))
      (.skip))))
    (.ops false [⟨some 15, .mv (.t 5), none⟩, ⟨some 16, .bin .add (.t 15) (.c (.int .i64 1)), none⟩, ⟨some 5, .mv (.t 16), none⟩]))))))
  (.seq (.ops false [⟨some 4, .mv (.c (.bool true)), none⟩])
  (.ret)))),
  [.t 4]⟩

/- noria/noriaref23.Put -/
def d_noriaref23_Put : DFun := ⟨
  .seq (.ops false [⟨some 6, .mv (.c (.nil)), none⟩])
  (.seq (.ops false [⟨some 10, .bslice false [.str [], .nil] [], none⟩, ⟨some 7, .mv (.t 10), none⟩])
  (.seq (.seq (.ops false [⟨some 8, .mv (.c (.int .i64 0)), none⟩])
  (.block 0 (.loop [0, 1, 2, 7, 8] (some 1) (.seq (.seq (.ops false [⟨some 11, .mv (.t 8), none⟩, ⟨some 12, .mv (.t 0), none⟩, ⟨some 13, .len (.t 12), none⟩, ⟨some 14, .bin .lss (.t 11) (.t 13), none⟩])
    (.cond (.t 14) (.skip)
     (.exit 0)))
    (.seq (.block 1 (.seq (.ops false [⟨some 17, .mv (.t 0), none⟩, ⟨some 18, .mv (.t 8), none⟩, ⟨some 19, .iaddr 2 (.t 17) (.t 18), none⟩, ⟨some 20, .load (some 2) (.t 19), none⟩, ⟨some 9, .alloc [.str [], .nil], none⟩, ⟨none, .store 2 (.t 9) (.t 20), none⟩])
     (.seq (.seq (.ops false [⟨some 21, .faddr 0 (.t 9), none⟩, ⟨some 22, .load none (.t 21), none⟩, ⟨some 23, .mv (.t 1), none⟩, ⟨some 24, .bin .eql (.t 22) (.t 23), none⟩])
     (.cond (.t 24) (.ops false [⟨some 25, .mv (.t 2), none⟩, ⟨some 26, .faddr 1 (.t 9), none⟩, ⟨none, .store 1 (.t 26) (.t 25), none⟩])
      (.skip)))
     (.ops false [⟨some 27, .mv (.t 7), none⟩, ⟨some 28, .load (some 2) (.t 9), none⟩, ⟨some 29, .bslice true [.str [], .nil] [(some (.t 28))], none⟩, ⟨some 30, .append 2 (.t 27) (.t 29), none⟩, ⟨some 7, .mv (.t 30), none⟩]))))
    (.ops false [⟨some 15, .mv (.t 8), none⟩, ⟨some 16, .bin .add (.t 15) (.c (.int .i64 1)), none⟩, ⟨some 8, .mv (.t 16), none⟩]))))))
  (.seq (.ops false [⟨some 31, .mv (.t 7), none⟩, ⟨some 6, .mv (.t 31), none⟩])
  (.ret)))),
  [.t 6]⟩

/- noria/mem.Get -/
def d_mem_Get : DFun := ⟨
  .seq (.ops false [⟨some 3, .box (.t 1), none⟩, ⟨some 4, .mv (.c (.nil)), none⟩, ⟨some 5, .mv (.c (.bool false)), none⟩])
  (.seq (.ops false [⟨some 7, .mv (.t 0), none⟩, ⟨some 8, .mkfun 29 [(.t 3)], none⟩, ⟨some 9, .callP 28 [(.t 7), (.t 8)], none⟩, ⟨some 6, .mv (.t 9), none⟩])
  (.seq (.seq (.ops false [⟨some 10, .mv (.t 6), none⟩, ⟨some 11, .bin .lss (.t 10) (.c (.int .i64 0)), none⟩])
  (.cond (.t 11) (.seq (.ops false [⟨some 4, .mv (.c (.nil)), none⟩, ⟨some 5, .mv (.c (.bool false)), none⟩])
   (.ret))
   (.skip)))
  (.seq (.ops false [⟨some 12, .mv (.t 0), none⟩, ⟨some 13, .mv (.t 6), none⟩, ⟨some 14, .iaddr 2 (.t 12) (.t 13), none⟩, ⟨some 15, .faddr 1 (.t 14), none⟩, ⟨some 16, .load none (.t 15), none⟩, ⟨some 17, .callP 30 [(.t 16)], none⟩, ⟨some 4, .mv (.t 17), none⟩, ⟨some 5, .mv (.c (.bool true)), none⟩])
  (.ret)))),
  [.t 4, .t 5]⟩

/- noria/noriaref01.Vals -/
def d_noriaref01_Vals : DFun := ⟨
  .seq (.ops false [⟨some 4, .mv (.c (.bool false)), none⟩])
  (.seq (.seq (.ops false [⟨some 6, .mv (.t 0), none⟩, ⟨some 7, .len (.t 6), none⟩, ⟨some 8, .mv (.t 1), none⟩, ⟨some 9, .len (.t 8), none⟩, ⟨some 10, .bin .neq (.t 7) (.t 9), none⟩])
  (.cond (.t 10) (.seq (.ops false [⟨some 4, .mv (.c (.bool false)), none⟩])
   (.ret))
   (.skip)))
  (.seq (.seq (.ops false [⟨some 5, .mv (.c (.int .i64 0)), none⟩])
  (.block 0 (.loop [0, 1, 5] (some 0) (.seq (.seq (.ops false [⟨some 11, .mv (.t 5), none⟩, ⟨some 12, .mv (.t 0), none⟩, ⟨some 13, .len (.t 12), none⟩, ⟨some 14, .bin .lss (.t 11) (.t 13), none⟩])
    (.cond (.t 14) (.skip)
     (.exit 0)))
    (.seq (.block 1 (.seq (.ops true [⟨some 17, .mv (.t 0), none⟩, ⟨some 18, .mv (.t 5), none⟩, ⟨some 19, .iaddr 1 (.t 17) (.t 18), none⟩, ⟨some 20, .load none (.t 19), none⟩, ⟨some 21, .mv (.t 1), none⟩, ⟨some 22, .mv (.t 5), none⟩, ⟨some 23, .iaddr 1 (.t 21) (.t 22), none⟩, ⟨some 24, .load none (.t 23), none⟩, ⟨some 25, .bin .neq (.t 20) (.t 24), none⟩])
     (.cond (.t 25) (.seq (.ops false [⟨some 4, .mv (.c (.bool false)), none⟩])
      (.ret))
      (.skip))))
    (.ops false [⟨some 15, .mv (.t 5), none⟩, ⟨some 16, .bin .add (.t 15) (.c (.int .i64 1)), none⟩, ⟨some 5, .mv (.t 16), none⟩]))))))
  (.seq (.ops false [⟨some 4, .mv (.c (.bool true)), none⟩])
  (.ret)))),
  [.t 4]⟩

/- noria/noriaref23.Get -/
def d_noriaref23_Get : DFun := ⟨
  .seq (.ops false [⟨some 4, .mv (.c (.nil)), none⟩, ⟨some 5, .mv (.c (.bool false)), none⟩])
  (.seq (.seq (.ops false [⟨some 6, .mv (.c (.int .i64 0)), none⟩])
  (.block 0 (.loop [0, 1, 6] (some 0) (.seq (.seq (.ops false [⟨some 7, .mv (.t 6), none⟩, ⟨some 8, .mv (.t 0), none⟩, ⟨some 9, .len (.t 8), none⟩, ⟨some 10, .bin .lss (.t 7) (.t 9), none⟩])
    (.cond (.t 10) (.skip)
     (.exit 0)))
    (.seq (.block 1 (.seq (.ops false [⟨some 13, .mv (.t 0), none⟩, ⟨some 14, .mv (.t 6), none⟩, ⟨some 15, .iaddr 2 (.t 13) (.t 14), none⟩, ⟨some 16, .faddr 0 (.t 15), none⟩, ⟨some 17, .load none (.t 16), none⟩, ⟨some 18, .mv (.t 1), none⟩, ⟨some 19, .bin .eql (.t 17) (.t 18), none⟩])
     (.cond (.t 19) (.seq (.ops false [⟨some 20, .mv (.t 0), none⟩, ⟨some 21, .mv (.t 6), none⟩, ⟨some 22, .iaddr 2 (.t 20) (.t 21), none⟩, ⟨some 23, .faddr 1 (.t 22), none⟩, ⟨some 24, .load none (.t 23), none⟩, ⟨some 4, .mv (.t 24), none⟩, ⟨some 5, .mv (.c (.bool true)), none⟩])
      (.ret))
      (.skip))))
    (.ops false [⟨some 11, .mv (.t 6), none⟩, ⟨some 12, .bin .add (.t 11) (.c (.int .i64 1)), none⟩, ⟨some 6, .mv (.t 12), none⟩]))))))
  (.seq (.ops false [⟨some 4, .mv (.c (.nil)), none⟩, ⟨some 5, .mv (.c (.bool false)), none⟩])
  (.ret))),
  [.t 4, .t 5]⟩

/- noria/mem.Under -/
def d_mem_Under : DFun := ⟨
  .seq (.ops false [⟨some 4, .mv (.c (.nil)), none⟩])
  (.seq (.ops false [⟨some 5, .mkown 2 (.c (.nil)), none⟩])
  (.seq (.seq (.ops false [⟨some 10, .mv (.t 0), none⟩, ⟨some 11, .len (.t 10), none⟩, ⟨some 12, .mv (.c (.int .i64 0)), none⟩])
  (.block 0 (.loop [1, 5, 10, 11, 12] (some 1) (.seq (.ops false [⟨some 13, .bin .lss (.t 12) (.t 11), none⟩])
    (.seq (.cond (.t 13) (.skip)
     (.exit 0))
    (.seq (.block 1 (.seq (.ops false [⟨some 14, .iaddr 2 (.t 10) (.t 12), none⟩, ⟨some 15, .load (some 2) (.t 14), none⟩, ⟨some 7, .alloc [.str [], .nil], none⟩, ⟨none, .store 2 (.t 7) (.t 15), none⟩])
     (.seq (.ops false [⟨some 17, .faddr 0 (.t 7), none⟩, ⟨some 18, .load none (.t 17), none⟩, ⟨some 19, .mv (.t 1), none⟩, ⟨some 20, .bin .add (.t 19) (.c (.str [47])), none⟩, ⟨some 21, .callP 31 [(.t 18), (.t 20)], none⟩, ⟨some 16, .mv (.t 21), none⟩, ⟨some 22, .extract 0 (.t 16), none⟩, ⟨some 23, .extract 1 (.t 16), none⟩, ⟨some 8, .mv (.t 22), none⟩, ⟨some 9, .mv (.t 23), none⟩])
     (.seq (.ops false [⟨some 24, .mv (.t 9), none⟩])
     (.cond (.t 24) (.ops false [⟨some 25, .mv (.t 5), none⟩, ⟨some 26, .mv (.t 8), none⟩, ⟨some 27, .faddr 1 (.t 7), none⟩, ⟨some 28, .load none (.t 27), none⟩, ⟨some 29, .callP 30 [(.t 28)], none⟩, ⟨some 30, .build [.str [], .nil] [(0, 1, (.t 26)), (1, 1, (.t 29))], none⟩, ⟨some 31, .bslice true [.str [], .nil] [(some (.t 30))], none⟩, ⟨some 32, .append 2 (.t 25) (.t 31), none⟩, ⟨some 5, .mv (.t 32), none⟩])
      (.skip))))))
    (.ops false [⟨some 33, .bin .add (.t 12) (.c (.int .i64 1)), none⟩, ⟨some 12, .mv (.t 33), none⟩])))))))
  (.seq (.ops false [⟨some 34, .mv (.t 5), none⟩, ⟨some 4, .mv (.t 34), none⟩])
  (.ret)))),
  [.t 4]⟩

/- noria/noriaref23.Under -/
def d_noriaref23_Under : DFun := ⟨
  .seq (.ops false [⟨some 4, .mv (.c (.nil)), none⟩])
  (.seq (.ops false [⟨some 9, .bslice false [.str [], .nil] [], none⟩, ⟨some 5, .mv (.t 9), none⟩])
  (.seq (.seq (.ops false [⟨some 6, .mv (.c (.int .i64 0)), none⟩])
  (.block 0 (.loop [0, 1, 5, 6] (some 1) (.seq (.seq (.ops false [⟨some 10, .mv (.t 6), none⟩, ⟨some 11, .mv (.t 0), none⟩, ⟨some 12, .len (.t 11), none⟩, ⟨some 13, .bin .lss (.t 10) (.t 12), none⟩])
    (.cond (.t 13) (.skip)
     (.exit 0)))
    (.seq (.block 1 (.seq (.ops false [⟨some 17, .mv (.t 0), none⟩, ⟨some 18, .mv (.t 6), none⟩, ⟨some 19, .iaddr 2 (.t 17) (.t 18), none⟩, ⟨some 20, .faddr 0 (.t 19), none⟩, ⟨some 21, .load none (.t 20), none⟩, ⟨some 22, .mv (.t 1), none⟩, ⟨some 23, .callP 32 [(.t 21), (.t 22)], none⟩, ⟨some 16, .mv (.t 23), none⟩, ⟨some 24, .extract 0 (.t 16), none⟩, ⟨some 25, .extract 1 (.t 16), none⟩, ⟨some 7, .mv (.t 24), none⟩, ⟨some 8, .mv (.t 25), none⟩])
     (.seq (.ops false [⟨some 26, .mv (.t 8), none⟩])
     (.cond (.t 26) (.ops false [⟨some 27, .mv (.t 5), none⟩, ⟨some 28, .mv (.t 7), none⟩, ⟨some 29, .mv (.t 0), none⟩, ⟨some 30, .mv (.t 6), none⟩, ⟨some 31, .iaddr 2 (.t 29) (.t 30), none⟩, ⟨some 32, .faddr 1 (.t 31), none⟩, ⟨some 33, .load none (.t 32), none⟩, ⟨some 34, .build [.str [], .nil] [(0, 1, (.t 28)), (1, 1, (.t 33))], none⟩, ⟨some 35, .bslice true [.str [], .nil] [(some (.t 34))], none⟩, ⟨some 36, .append 2 (.t 27) (.t 35), none⟩, ⟨some 5, .mv (.t 36), none⟩])
      (.skip)))))
    (.ops false [⟨some 14, .mv (.t 6), none⟩, ⟨some 15, .bin .add (.t 14) (.c (.int .i64 1)), none⟩, ⟨some 6, .mv (.t 15), none⟩]))))))
  (.seq (.ops false [⟨some 37, .mv (.t 5), none⟩, ⟨some 4, .mv (.t 37), none⟩])
  (.ret)))),
  [.t 4]⟩

/- noria/mem.Over -/
def d_mem_Over : DFun := ⟨
  .seq (.ops false [⟨some 4, .bref (.t 1), none⟩, ⟨some 5, .bref (.t 2), none⟩, ⟨some 6, .mv (.c (.nil)), none⟩])
  (.seq (.ops false [⟨some 7, .mv (.t 0), none⟩, ⟨some 8, .mkfun 33 [(.t 4), (.t 5)], none⟩, ⟨some 9, .callP 26 [(.t 7), (.t 8)], none⟩, ⟨some 6, .mv (.t 9), none⟩])
  (.ret)),
  [.t 6]⟩

/- noria/noriaref23.Over -/
def d_noriaref23_Over : DFun := ⟨
  .seq (.ops false [⟨some 6, .mv (.c (.nil)), none⟩])
  (.seq (.ops false [⟨some 14, .bslice false [.str [], .nil] [], none⟩, ⟨some 7, .mv (.t 14), none⟩])
  (.seq (.seq (.ops false [⟨some 8, .mv (.c (.int .i64 0)), none⟩])
  (.block 0 (.loop [0, 1, 2, 7, 8] (some 1) (.seq (.seq (.ops false [⟨some 15, .mv (.t 8), none⟩, ⟨some 16, .mv (.t 0), none⟩, ⟨some 17, .len (.t 16), none⟩, ⟨some 18, .bin .lss (.t 15) (.t 17), none⟩])
    (.cond (.t 18) (.skip)
     (.exit 0)))
    (.seq (.block 1 (.seq (.ops false [⟨some 21, .mv (.t 0), none⟩, ⟨some 22, .mv (.t 8), none⟩, ⟨some 23, .iaddr 2 (.t 21) (.t 22), none⟩, ⟨some 24, .load (some 2) (.t 23), none⟩, ⟨some 9, .alloc [.str [], .nil], none⟩, ⟨none, .store 2 (.t 9) (.t 24), none⟩])
     (.seq (.ops false [⟨some 26, .faddr 0 (.t 9), none⟩, ⟨some 27, .load none (.t 26), none⟩, ⟨some 28, .mv (.t 1), none⟩, ⟨some 29, .callP 32 [(.t 27), (.t 28)], none⟩, ⟨some 25, .mv (.t 29), none⟩, ⟨some 30, .extract 0 (.t 25), none⟩, ⟨some 31, .extract 1 (.t 25), none⟩, ⟨some 10, .mv (.t 30), none⟩, ⟨some 11, .mv (.t 31), none⟩])
     (.seq (.ops false [⟨some 33, .mv (.t 2), none⟩, ⟨some 34, .mv (.t 10), none⟩, ⟨some 35, .callP 14 [(.t 33), (.t 34)], none⟩, ⟨some 32, .mv (.t 35), none⟩, ⟨some 36, .extract 0 (.t 32), none⟩, ⟨some 37, .extract 1 (.t 32), none⟩, ⟨some 12, .mv (.t 36), none⟩, ⟨some 13, .mv (.t 37), none⟩])
     (.seq (.seq (.ops false [⟨some 38, .mv (.t 11), none⟩, ⟨some 39, .mv (.t 38), none⟩, ⟨some 40, .mv (.t 13), some (39, true)⟩, ⟨some 41, .pick (.t 39) (.t 40) (.c (.bool false)), none⟩])
     (.cond (.t 41) (.ops false [⟨some 42, .mv (.t 12), none⟩, ⟨some 43, .faddr 1 (.t 9), none⟩, ⟨none, .store 1 (.t 43) (.t 42), none⟩])
      (.skip)))
     (.ops false [⟨some 44, .mv (.t 7), none⟩, ⟨some 45, .load (some 2) (.t 9), none⟩, ⟨some 46, .bslice true [.str [], .nil] [(some (.t 45))], none⟩, ⟨some 47, .append 2 (.t 44) (.t 46), none⟩, ⟨some 7, .mv (.t 47), none⟩]))))))
    (.ops false [⟨some 19, .mv (.t 8), none⟩, ⟨some 20, .bin .add (.t 19) (.c (.int .i64 1)), none⟩, ⟨some 8, .mv (.t 20), none⟩]))))))
  (.seq (.ops false [⟨some 48, .mv (.t 7), none⟩, ⟨some 6, .mv (.t 48), none⟩])
  (.ret)))),
  [.t 6]⟩

/- noria/mem.Same -/
def d_mem_Same : DFun := ⟨
  .seq (.ops false [⟨some 4, .mv (.c (.bool false)), none⟩])
  (.seq (.ops false [⟨some 5, .mv (.t 0), none⟩, ⟨some 6, .mv (.t 1), none⟩, ⟨some 7, .callP 34 [(.t 5), (.t 6), (.c (.clo 35 []))], none⟩, ⟨some 4, .mv (.t 7), none⟩])
  (.ret)),
  [.t 4]⟩

/- noria/norialaw23.few -/
def d_norialaw23_few : DFun := ⟨
  .seq (.ops false [⟨some 1, .bref (.t 0), none⟩, ⟨some 2, .mv (.c (.bool false)), none⟩])
  (.seq (.seq (.ops false [⟨some 3, .mv (.c (.int .i64 0)), none⟩])
  (.block 0 (.loop [1, 3] (some 0) (.seq (.seq (.ops false [⟨some 4, .mv (.t 3), none⟩, ⟨some 5, .faddr 1 (.t 1), none⟩, ⟨some 6, .load none (.t 5), none⟩, ⟨some 7, .len (.t 6), none⟩, ⟨some 8, .bin .lss (.t 4) (.t 7), none⟩, ⟨some 9, .mv (.t 8), none⟩, ⟨some 10, .mv (.t 3), some (9, true)⟩, ⟨some 11, .bin .lss (.t 10) (.c (.int .i64 20)), some (9, true)⟩, ⟨some 12, .pick (.t 9) (.t 11) (.c (.bool false)), none⟩])
    (.cond (.t 12) (.skip)
     (.exit 0)))
    (.seq (.block 1 (.seq (.ops false [⟨some 15, .faddr 1 (.t 1), none⟩, ⟨some 16, .load none (.t 15), none⟩, ⟨some 17, .mv (.t 3), none⟩, ⟨some 18, .iaddr 5 (.t 16) (.t 17), none⟩, ⟨some 19, .load (some 5) (.t 18), none⟩, ⟨some 20, .callP 37 [(.t 19)], none⟩, ⟨some 21, .un .not (.t 20), none⟩])
     (.cond (.t 21) (.seq (.ops false [⟨some 2, .mv (.c (.bool false)), none⟩])
      (.ret))
      (.skip))))
    (.ops false [⟨some 13, .mv (.t 3), none⟩, ⟨some 14, .bin .add (.t 13) (.c (.int .i64 1)), none⟩, ⟨some 3, .mv (.t 14), none⟩]))))))
  (.seq (.ops false [⟨some 22, .faddr 1 (.t 1), none⟩, ⟨some 23, .load none (.t 22), none⟩, ⟨some 24, .len (.t 23), none⟩, ⟨some 25, .bin .leq (.t 24) (.c (.int .i64 10)), none⟩, ⟨some 2, .mv (.t 25), none⟩])
  (.ret))),
  [.t 2]⟩

/- noria/mem.Count -/
def d_mem_Count : DFun := ⟨
  .seq (.ops false [⟨some 2, .bref (.t 0), none⟩, ⟨some 4, .mv (.c (.int .i64 0)), none⟩, ⟨some 5, .mv (.c (.int .i64 0)), none⟩])
  (.seq (.seq (.ops false [⟨some 9, .mv (.t 1), none⟩, ⟨some 10, .bin .lss (.t 9) (.c (.int .i64 0)), none⟩, ⟨some 11, .mv (.t 10), none⟩, ⟨some 12, .mv (.t 1), some (11, false)⟩, ⟨some 13, .faddr 1 (.t 2), some (11, false)⟩, ⟨some 14, .load none (.t 13), some (11, false)⟩, ⟨some 15, .len (.t 14), some (11, false)⟩, ⟨some 16, .bin .geq (.t 12) (.t 15), some (11, false)⟩, ⟨some 17, .pick (.t 11) (.c (.bool true)) (.t 16), none⟩])
  (.cond (.t 17) (.seq (.ops false [⟨some 4, .mv (.c (.int .i64 0)), none⟩, ⟨some 5, .mv (.c (.int .i64 0)), none⟩])
   (.ret))
   (.skip)))
  (.seq (.ops false [⟨some 18, .mv (.t 1), none⟩, ⟨some 19, .bin .add (.t 18) (.c (.int .i64 1)), none⟩, ⟨some 20, .make [.int .i64 0, .int .i64 0] (.t 19) (.t 19), none⟩, ⟨some 6, .alloc [.nil], none⟩, ⟨none, .store 1 (.t 6) (.t 20), none⟩])
  (.seq (.seq (.ops false [⟨some 21, .load none (.t 6), none⟩, ⟨some 22, .len (.t 21), none⟩, ⟨some 23, .mv (.c (.int .i64 0)), none⟩])
  (.block 0 (.loop [1, 2, 6, 8, 22, 23, 51] (some 2) (.seq (.ops false [⟨some 24, .bin .lss (.t 23) (.t 22), none⟩])
    (.seq (.cond (.t 24) (.skip)
     (.exit 0))
    (.seq (.block 1 (.seq (.ops false [⟨some 25, .mv (.t 23), none⟩, ⟨some 7, .alloc [.int .i64 0], none⟩, ⟨none, .store 1 (.t 7) (.t 25), none⟩])
     (.seq (.ops false [⟨some 26, .load none (.t 6), none⟩, ⟨some 27, .load none (.t 7), none⟩, ⟨some 28, .iaddr 2 (.t 26) (.t 27), none⟩, ⟨some 29, .faddr 1 (.t 28), none⟩, ⟨none, .store 1 (.t 29) (.c (.int .i64 1)), none⟩])
     (.seq (.seq (.ops false [⟨some 30, .faddr 1 (.t 2), none⟩, ⟨some 31, .load none (.t 30), none⟩, ⟨some 32, .load none (.t 7), none⟩, ⟨some 33, .iaddr 5 (.t 31) (.t 32), none⟩, ⟨some 34, .load (some 5) (.t 33), none⟩, ⟨some 35, .callP 38 [(.t 34)], none⟩])
     (.block 2 (.rangeF [1, 2, 6, 7, 8, 22, 23, 51] (some 3) (.t 35) [36] (.skip) (.block 3 (.ops true [⟨some 37, .load none (.t 6), none⟩, ⟨some 38, .load none (.t 7), none⟩, ⟨some 39, .load none (.t 6), none⟩, ⟨some 40, .load none (.t 7), none⟩, ⟨some 41, .iaddr 2 (.t 39) (.t 40), none⟩, ⟨some 42, .faddr 0 (.t 41), none⟩, ⟨some 43, .load none (.t 42), none⟩, ⟨some 44, .bin .add (.t 43) (.c (.int .i64 1)), none⟩, ⟨some 45, .minmax false (.t 44) (.c (.int .i64 1000)), none⟩, ⟨some 46, .iaddr 2 (.t 37) (.t 38), none⟩, ⟨some 47, .faddr 0 (.t 46), none⟩, ⟨none, .store 1 (.t 47) (.t 45), none⟩])))))
     (.seq (.ops false [⟨some 48, .load (some 2) (.t 2), none⟩, ⟨some 49, .load none (.t 7), none⟩, ⟨some 50, .callP 39 [(.t 48), (.t 49)], none⟩])
     (.block 4 (.rangeF [1, 2, 6, 7, 8, 22, 23] (some 3) (.t 50) [51] (.ops false [⟨some 8, .alloc [.int .i64 0, .nil, .int .i64 0, .nil, .nil, .int .i64 0, .bool false, .str [], .int .i64 0, .nil], none⟩, ⟨none, .store 10 (.t 8) (.t 51), none⟩]) (.block 5 (.seq (.ops true [⟨some 52, .load none (.t 6), none⟩, ⟨some 53, .load none (.t 7), none⟩, ⟨some 54, .load none (.t 6), none⟩, ⟨some 55, .load none (.t 7), none⟩, ⟨some 56, .iaddr 2 (.t 54) (.t 55), none⟩, ⟨some 57, .faddr 0 (.t 56), none⟩, ⟨some 58, .load none (.t 57), none⟩, ⟨some 59, .load none (.t 6), none⟩, ⟨some 60, .faddr 5 (.t 8), none⟩, ⟨some 61, .load none (.t 60), none⟩, ⟨some 62, .iaddr 2 (.t 59) (.t 61), none⟩, ⟨some 63, .faddr 0 (.t 62), none⟩, ⟨some 64, .load none (.t 63), none⟩, ⟨some 65, .bin .add (.t 58) (.t 64), none⟩, ⟨some 66, .minmax false (.t 65) (.c (.int .i64 1000)), none⟩, ⟨some 67, .iaddr 2 (.t 52) (.t 53), none⟩, ⟨some 68, .faddr 0 (.t 67), none⟩, ⟨none, .store 1 (.t 68) (.t 66), none⟩])
        (.ops true [⟨some 69, .load none (.t 6), none⟩, ⟨some 70, .load none (.t 7), none⟩, ⟨some 71, .load none (.t 6), none⟩, ⟨some 72, .load none (.t 7), none⟩, ⟨some 73, .iaddr 2 (.t 71) (.t 72), none⟩, ⟨some 74, .faddr 1 (.t 73), none⟩, ⟨some 75, .load none (.t 74), none⟩, ⟨some 76, .load none (.t 6), none⟩, ⟨some 77, .faddr 5 (.t 8), none⟩, ⟨some 78, .load none (.t 77), none⟩, ⟨some 79, .iaddr 2 (.t 76) (.t 78), none⟩, ⟨some 80, .faddr 1 (.t 79), none⟩, ⟨some 81, .load none (.t 80), none⟩, ⟨some 82, .bin .add (.t 75) (.t 81), none⟩, ⟨some 83, .minmax false (.t 82) (.c (.int .i64 1000)), none⟩, ⟨some 84, .iaddr 2 (.t 69) (.t 70), none⟩, ⟨some 85, .faddr 1 (.t 84), none⟩, ⟨none, .store 1 (.t 85) (.t 83), none⟩]))))))))))
    (.ops false [⟨some 86, .bin .add (.t 23) (.c (.int .i64 1)), none⟩, ⟨some 23, .mv (.t 86), none⟩])))))))
  (.seq (.ops true [⟨some 87, .load none (.t 6), none⟩, ⟨some 88, .mv (.t 1), none⟩, ⟨some 89, .iaddr 2 (.t 87) (.t 88), none⟩, ⟨some 90, .faddr 0 (.t 89), none⟩, ⟨some 91, .load none (.t 90), none⟩, ⟨some 92, .load none (.t 6), none⟩, ⟨some 93, .mv (.t 1), none⟩, ⟨some 94, .iaddr 2 (.t 92) (.t 93), none⟩, ⟨some 95, .faddr 1 (.t 94), none⟩, ⟨some 96, .load none (.t 95), none⟩, ⟨some 4, .mv (.t 91), none⟩, ⟨some 5, .mv (.t 96), none⟩])
  (.ret))))),
  [.t 4, .t 5]⟩

/- noria/noriaref23.Count -/
def d_noriaref23_Count : DFun := ⟨
  .seq (.ops false [⟨some 2, .bref (.t 0), none⟩, ⟨some 4, .mv (.c (.int .i64 0)), none⟩, ⟨some 5, .mv (.c (.int .i64 0)), none⟩])
  (.seq (.seq (.ops false [⟨some 15, .mv (.t 1), none⟩, ⟨some 16, .bin .lss (.t 15) (.c (.int .i64 0)), none⟩, ⟨some 17, .mv (.t 16), none⟩, ⟨some 18, .mv (.t 1), some (17, false)⟩, ⟨some 19, .faddr 1 (.t 2), some (17, false)⟩, ⟨some 20, .load none (.t 19), some (17, false)⟩, ⟨some 21, .len (.t 20), some (17, false)⟩, ⟨some 22, .bin .geq (.t 18) (.t 21), some (17, false)⟩, ⟨some 23, .pick (.t 17) (.c (.bool true)) (.t 22), none⟩])
  (.cond (.t 23) (.seq (.ops false [⟨some 4, .mv (.c (.int .i64 0)), none⟩, ⟨some 5, .mv (.c (.int .i64 0)), none⟩])
   (.ret))
   (.skip)))
  (.seq (.ops false [⟨some 24, .bslice false [.int .i64 0] [], none⟩, ⟨some 25, .bslice false [.int .i64 0] [], none⟩, ⟨some 6, .mv (.t 24), none⟩, ⟨some 7, .mv (.t 25), none⟩])
  (.seq (.seq (.ops false [⟨some 8, .mv (.c (.int .i64 0)), none⟩])
  (.block 0 (.loop [1, 2, 6, 7, 8] (some 2) (.seq (.seq (.ops false [⟨some 26, .mv (.t 8), none⟩, ⟨some 27, .mv (.t 1), none⟩, ⟨some 28, .bin .leq (.t 26) (.t 27), none⟩])
    (.cond (.t 28) (.skip)
     (.exit 0)))
    (.seq (.block 1 (.seq (.ops false [⟨some 9, .mv (.c (.int .i64 0)), none⟩, ⟨some 10, .mv (.c (.int .i64 1)), none⟩])
     (.seq (.seq (.ops false [⟨some 11, .mv (.c (.int .i64 0)), none⟩])
     (.block 2 (.loop [1, 2, 6, 7, 8, 9, 10, 11] (some 2) (.seq (.seq (.ops false [⟨some 31, .mv (.t 11), none⟩, ⟨some 32, .faddr 1 (.t 2), none⟩, ⟨some 33, .load none (.t 32), none⟩, ⟨some 34, .mv (.t 8), none⟩, ⟨some 35, .iaddr 5 (.t 33) (.t 34), none⟩, ⟨some 36, .faddr 4 (.t 35), none⟩, ⟨some 37, .load none (.t 36), none⟩, ⟨some 38, .len (.t 37), none⟩, ⟨some 39, .bin .lss (.t 31) (.t 38), none⟩])
       (.cond (.t 39) (.skip)
        (.exit 2)))
       (.seq (.block 3 (.seq (.ops false [⟨some 42, .faddr 1 (.t 2), none⟩, ⟨some 43, .load none (.t 42), none⟩, ⟨some 44, .mv (.t 8), none⟩, ⟨some 45, .iaddr 5 (.t 43) (.t 44), none⟩, ⟨some 46, .faddr 4 (.t 45), none⟩, ⟨some 47, .load none (.t 46), none⟩, ⟨some 48, .mv (.t 11), none⟩, ⟨some 49, .iaddr 10 (.t 47) (.t 48), none⟩, ⟨some 50, .load (some 10) (.t 49), none⟩, ⟨some 12, .alloc [.int .i64 0, .nil, .int .i64 0, .nil, .nil, .int .i64 0, .bool false, .str [], .int .i64 0, .nil], none⟩, ⟨none, .store 10 (.t 12) (.t 50), none⟩])
        (.seq (.ops false [⟨some 52, .load (some 10) (.t 12), none⟩, ⟨some 53, .mv (.t 8), none⟩, ⟨some 54, .callP 40 [(.t 52), (.t 53)], none⟩, ⟨some 51, .mv (.t 54), none⟩, ⟨some 55, .extract 0 (.t 51), none⟩, ⟨some 56, .extract 1 (.t 51), none⟩, ⟨some 13, .mv (.t 55), none⟩, ⟨some 14, .mv (.t 56), none⟩])
        (.seq (.seq (.ops false [⟨some 57, .mv (.t 13), none⟩])
        (.cond (.t 57) (.ops false [⟨some 58, .mv (.t 9), none⟩, ⟨some 59, .bin .add (.t 58) (.c (.int .i64 1)), none⟩, ⟨some 60, .callP 41 [(.t 59)], none⟩, ⟨some 9, .mv (.t 60), none⟩])
         (.skip)))
        (.seq (.ops false [⟨some 61, .mv (.t 14), none⟩])
        (.cond (.t 61) (.opsP [(0, ⟨some 62, .mv (.t 9), none⟩), (1, ⟨some 63, .mv (.t 6), none⟩), (2, ⟨some 64, .faddr 5 (.t 12), none⟩), (3, ⟨some 65, .load none (.t 64), none⟩), (4, ⟨some 66, .iaddr 1 (.t 63) (.t 65), none⟩), (5, ⟨some 67, .load none (.t 66), none⟩), (6, ⟨some 68, .bin .add (.t 62) (.t 67), none⟩), (8, ⟨some 70, .mv (.t 10), none⟩), (9, ⟨some 71, .mv (.t 7), none⟩), (10, ⟨some 72, .faddr 5 (.t 12), none⟩), (11, ⟨some 73, .load none (.t 72), none⟩), (12, ⟨some 74, .iaddr 1 (.t 71) (.t 73), none⟩), (13, ⟨some 75, .load none (.t 74), none⟩), (14, ⟨some 76, .bin .add (.t 70) (.t 75), none⟩), (7, ⟨some 69, .callP 41 [(.t 68)], none⟩), (15, ⟨some 77, .callP 41 [(.t 76)], none⟩), (16, ⟨some 9, .mv (.t 69), none⟩), (17, ⟨some 10, .mv (.t 77), none⟩)])
         (.skip)))))))
       (.ops false [⟨some 40, .mv (.t 11), none⟩, ⟨some 41, .bin .add (.t 40) (.c (.int .i64 1)), none⟩, ⟨some 11, .mv (.t 41), none⟩]))))))
     (.ops false [⟨some 78, .mv (.t 6), none⟩, ⟨some 79, .mv (.t 9), none⟩, ⟨some 80, .bslice true [.int .i64 0] [(some (.t 79))], none⟩, ⟨some 81, .append 1 (.t 78) (.t 80), none⟩, ⟨some 82, .mv (.t 7), none⟩, ⟨some 83, .mv (.t 10), none⟩, ⟨some 84, .bslice true [.int .i64 0] [(some (.t 83))], none⟩, ⟨some 85, .append 1 (.t 82) (.t 84), none⟩, ⟨some 6, .mv (.t 81), none⟩, ⟨some 7, .mv (.t 85), none⟩]))))
    (.ops false [⟨some 29, .mv (.t 8), none⟩, ⟨some 30, .bin .add (.t 29) (.c (.int .i64 1)), none⟩, ⟨some 8, .mv (.t 30), none⟩]))))))
  (.seq (.ops true [⟨some 86, .mv (.t 6), none⟩, ⟨some 87, .mv (.t 1), none⟩, ⟨some 88, .iaddr 1 (.t 86) (.t 87), none⟩, ⟨some 89, .load none (.t 88), none⟩, ⟨some 90, .mv (.t 7), none⟩, ⟨some 91, .mv (.t 1), none⟩, ⟨some 92, .iaddr 1 (.t 90) (.t 91), none⟩, ⟨some 93, .load none (.t 92), none⟩, ⟨some 4, .mv (.t 89), none⟩, ⟨some 5, .mv (.t 93), none⟩])
  (.ret))))),
  [.t 4, .t 5]⟩

/- noria/mem.Start -/
def d_mem_Start : DFun := ⟨
  .seq (.ops false [⟨some 2, .bref (.t 0), none⟩, ⟨some 4, .mv (.c (.nil)), none⟩, ⟨some 5, .mv (.c (.bool false)), none⟩])
  (.seq (.ops false [⟨some 10, .load (some 2) (.t 2), none⟩, ⟨some 11, .mv (.t 1), none⟩, ⟨some 12, .callP 21 [(.t 10), (.t 11)], none⟩, ⟨some 9, .mv (.t 12), none⟩, ⟨some 13, .extract 0 (.t 9), none⟩, ⟨some 14, .extract 1 (.t 9), none⟩, ⟨some 6, .mv (.t 13), none⟩, ⟨some 7, .mv (.t 14), none⟩])
  (.seq (.seq (.ops false [⟨some 15, .mv (.t 7), none⟩, ⟨some 16, .bin .eql (.t 15) (.c (.int .i64 0)), none⟩, ⟨some 17, .mv (.t 16), none⟩, ⟨some 18, .mv (.t 6), some (17, false)⟩, ⟨some 19, .bin .gtr (.t 18) (.c (.int .i64 120)), some (17, false)⟩, ⟨some 20, .pick (.t 17) (.c (.bool true)) (.t 19), none⟩, ⟨some 21, .mv (.t 20), none⟩, ⟨some 22, .mv (.t 7), some (21, false)⟩, ⟨some 23, .bin .gtr (.t 22) (.c (.int .i64 120)), some (21, false)⟩, ⟨some 24, .pick (.t 21) (.c (.bool true)) (.t 23), none⟩])
  (.cond (.t 24) (.seq (.ops false [⟨some 4, .mv (.c (.nil)), none⟩, ⟨some 5, .mv (.c (.bool false)), none⟩])
   (.ret))
   (.skip)))
  (.seq (.ops false [⟨some 8, .alloc [.nil], none⟩])
  (.gown 8 0 2 (.seq (.ops false [⟨some 25, .load (some 2) (.t 2), none⟩, ⟨some 26, .mv (.t 1), none⟩, ⟨some 27, .mkfun 43 [(.t 8)], none⟩, ⟨some 28, .callH 42 [(.t 25), (.t 26), (.c (.str [])), (.t 27)], none⟩])
  (.seq (.ops false [⟨some 29, .load none (.t 8), none⟩, ⟨some 4, .mv (.t 29), none⟩, ⟨some 5, .mv (.c (.bool true)), none⟩])
  (.ret))))))),
  [.t 4, .t 5]⟩

/- noria/noriaref23.Start -/
def d_noriaref23_Start : DFun := ⟨
  .seq (.ops false [⟨some 2, .bref (.t 0), none⟩, ⟨some 4, .mv (.c (.nil)), none⟩, ⟨some 5, .mv (.c (.bool false)), none⟩])
  (.seq (.ops false [⟨some 9, .load (some 2) (.t 2), none⟩, ⟨some 10, .mv (.t 1), none⟩, ⟨some 11, .callP 22 [(.t 9), (.t 10)], none⟩, ⟨some 8, .mv (.t 11), none⟩, ⟨some 12, .extract 0 (.t 8), none⟩, ⟨some 13, .extract 1 (.t 8), none⟩, ⟨some 6, .mv (.t 12), none⟩, ⟨some 7, .mv (.t 13), none⟩])
  (.seq (.seq (.ops false [⟨some 14, .mv (.t 7), none⟩, ⟨some 15, .bin .eql (.t 14) (.c (.int .i64 0)), none⟩, ⟨some 16, .mv (.t 15), none⟩, ⟨some 17, .mv (.t 6), some (16, false)⟩, ⟨some 18, .bin .gtr (.t 17) (.c (.int .i64 120)), some (16, false)⟩, ⟨some 19, .pick (.t 16) (.c (.bool true)) (.t 18), none⟩, ⟨some 20, .mv (.t 19), none⟩, ⟨some 21, .mv (.t 7), some (20, false)⟩, ⟨some 22, .bin .gtr (.t 21) (.c (.int .i64 120)), some (20, false)⟩, ⟨some 23, .pick (.t 20) (.c (.bool true)) (.t 22), none⟩])
  (.cond (.t 23) (.seq (.ops false [⟨some 4, .mv (.c (.nil)), none⟩, ⟨some 5, .mv (.c (.bool false)), none⟩])
   (.ret))
   (.skip)))
  (.seq (.ops false [⟨some 24, .load (some 2) (.t 2), none⟩, ⟨some 25, .mv (.t 1), none⟩, ⟨some 26, .callP 44 [(.t 24), (.t 25)], none⟩, ⟨some 4, .mv (.t 26), none⟩, ⟨some 5, .mv (.c (.bool true)), none⟩])
  (.ret)))),
  [.t 4, .t 5]⟩

/- noria/norialaw23.once -/
def d_norialaw23_once : DFun := ⟨
  .seq (.ops false [⟨some 1, .bref (.t 0), none⟩, ⟨some 2, .mv (.c (.bool false)), none⟩])
  (.seq (.seq (.ops false [⟨some 3, .mv (.c (.int .i64 0)), none⟩])
  (.block 0 (.loop [1, 3] (some 0) (.seq (.seq (.ops false [⟨some 6, .mv (.t 3), none⟩, ⟨some 7, .faddr 4 (.t 1), none⟩, ⟨some 8, .load none (.t 7), none⟩, ⟨some 9, .len (.t 8), none⟩, ⟨some 10, .bin .lss (.t 6) (.t 9), none⟩])
    (.cond (.t 10) (.skip)
     (.exit 0)))
    (.seq (.block 1 (.seq (.seq (.ops false [⟨some 4, .mv (.c (.int .i64 0)), none⟩])
     (.block 2 (.loop [1, 3, 4] (some 0) (.seq (.seq (.ops false [⟨some 13, .mv (.t 4), none⟩, ⟨some 14, .mv (.t 3), none⟩, ⟨some 15, .bin .lss (.t 13) (.t 14), none⟩])
       (.cond (.t 15) (.skip)
        (.exit 2)))
       (.seq (.block 3 (.seq (.ops true [⟨some 18, .faddr 4 (.t 1), none⟩, ⟨some 19, .load none (.t 18), none⟩, ⟨some 20, .mv (.t 3), none⟩, ⟨some 21, .iaddr 10 (.t 19) (.t 20), none⟩, ⟨some 22, .faddr 1 (.t 21), none⟩, ⟨some 23, .load none (.t 22), none⟩, ⟨some 24, .len (.t 23), none⟩, ⟨some 25, .bin .gtr (.t 24) (.c (.int .i64 0)), none⟩, ⟨some 26, .mv (.t 25), none⟩, ⟨some 27, .faddr 4 (.t 1), some (26, true)⟩, ⟨some 28, .load none (.t 27), some (26, true)⟩, ⟨some 29, .mv (.t 4), some (26, true)⟩, ⟨some 30, .iaddr 10 (.t 28) (.t 29), some (26, true)⟩, ⟨some 31, .faddr 1 (.t 30), some (26, true)⟩, ⟨some 32, .load none (.t 31), some (26, true)⟩, ⟨some 33, .len (.t 32), some (26, true)⟩, ⟨some 34, .bin .gtr (.t 33) (.c (.int .i64 0)), some (26, true)⟩, ⟨some 35, .pick (.t 26) (.t 34) (.c (.bool false)), none⟩, ⟨some 36, .mv (.t 35), none⟩, ⟨some 37, .faddr 4 (.t 1), some (36, true)⟩, ⟨some 38, .load none (.t 37), some (36, true)⟩, ⟨some 39, .mv (.t 3), some (36, true)⟩, ⟨some 40, .iaddr 10 (.t 38) (.t 39), some (36, true)⟩, ⟨some 41, .faddr 1 (.t 40), some (36, true)⟩, ⟨some 42, .load none (.t 41), some (36, true)⟩, ⟨some 43, .iaddr 1 (.t 42) (.c (.int .i64 0)), some (36, true)⟩, ⟨some 44, .load none (.t 43), some (36, true)⟩, ⟨some 45, .faddr 4 (.t 1), some (36, true)⟩, ⟨some 46, .load none (.t 45), some (36, true)⟩, ⟨some 47, .mv (.t 4), some (36, true)⟩, ⟨some 48, .iaddr 10 (.t 46) (.t 47), some (36, true)⟩, ⟨some 49, .faddr 1 (.t 48), some (36, true)⟩, ⟨some 50, .load none (.t 49), some (36, true)⟩, ⟨some 51, .iaddr 1 (.t 50) (.c (.int .i64 0)), some (36, true)⟩, ⟨some 52, .load none (.t 51), some (36, true)⟩, ⟨some 53, .bin .eql (.t 44) (.t 52), some (36, true)⟩, ⟨some 54, .pick (.t 36) (.t 53) (.c (.bool false)), none⟩])
        (.cond (.t 54) (.seq (.ops false [⟨some 2, .mv (.c (.bool false)), none⟩])
         (.ret))
         (.skip))))
       (.ops false [⟨some 16, .mv (.t 4), none⟩, ⟨some 17, .bin .add (.t 16) (.c (.int .i64 1)), none⟩, ⟨some 4, .mv (.t 17), none⟩]))))))
     (.seq (.ops false [⟨some 55, .faddr 4 (.t 1), none⟩, ⟨some 56, .load none (.t 55), none⟩, ⟨some 57, .mv (.t 3), none⟩, ⟨some 58, .iaddr 10 (.t 56) (.t 57), none⟩, ⟨some 59, .faddr 1 (.t 58), none⟩, ⟨some 60, .load none (.t 59), none⟩, ⟨some 61, .len (.t 60), none⟩, ⟨some 62, .bin .gtr (.t 61) (.c (.int .i64 0)), none⟩])
     (.cond (.t 62) (.seq (.ops false [⟨some 5, .mv (.c (.int .i64 0)), none⟩])
      (.block 4 (.loop [1, 3, 5] (some 0) (.seq (.seq (.ops false [⟨some 63, .mv (.t 5), none⟩, ⟨some 64, .faddr 4 (.t 1), none⟩, ⟨some 65, .load none (.t 64), none⟩, ⟨some 66, .mv (.t 3), none⟩, ⟨some 67, .iaddr 10 (.t 65) (.t 66), none⟩, ⟨some 68, .faddr 1 (.t 67), none⟩, ⟨some 69, .load none (.t 68), none⟩, ⟨some 70, .iaddr 1 (.t 69) (.c (.int .i64 0)), none⟩, ⟨some 71, .load none (.t 70), none⟩, ⟨some 72, .lenS (.t 71), none⟩, ⟨some 73, .bin .lss (.t 63) (.t 72), none⟩])
        (.cond (.t 73) (.skip)
         (.exit 4)))
        (.seq (.block 5 (.seq (.ops false [⟨some 76, .faddr 4 (.t 1), none⟩, ⟨some 77, .load none (.t 76), none⟩, ⟨some 78, .mv (.t 3), none⟩, ⟨some 79, .iaddr 10 (.t 77) (.t 78), none⟩, ⟨some 80, .faddr 1 (.t 79), none⟩, ⟨some 81, .load none (.t 80), none⟩, ⟨some 82, .iaddr 1 (.t 81) (.c (.int .i64 0)), none⟩, ⟨some 83, .load none (.t 82), none⟩, ⟨some 84, .mv (.t 5), none⟩, ⟨some 85, .index (.t 83) (.t 84), none⟩, ⟨some 86, .bin .eql (.t 85) (.c (.int .u8 47)), none⟩])
         (.cond (.t 86) (.seq (.ops false [⟨some 2, .mv (.c (.bool false)), none⟩])
          (.ret))
          (.skip))))
        (.ops false [⟨some 74, .mv (.t 5), none⟩, ⟨some 75, .bin .add (.t 74) (.c (.int .i64 1)), none⟩, ⟨some 5, .mv (.t 75), none⟩]))))))
      (.skip)))))
    (.ops false [⟨some 11, .mv (.t 3), none⟩, ⟨some 12, .bin .add (.t 11) (.c (.int .i64 1)), none⟩, ⟨some 3, .mv (.t 12), none⟩]))))))
  (.seq (.ops false [⟨some 2, .mv (.c (.bool true)), none⟩])
  (.ret))),
  [.t 2]⟩

/- noria/mem.each -/
def d_mem_each : DFun := ⟨
  .seq (.ops false [⟨some 4, .mv (.c (.nil)), none⟩])
  (.seq (.ops false [⟨some 8, .mv (.t 0), none⟩, ⟨some 9, .len (.t 8), none⟩, ⟨some 10, .make [.str [], .nil] (.c (.int .i64 0)) (.t 9), none⟩, ⟨some 5, .mv (.t 10), none⟩])
  (.seq (.seq (.ops false [⟨some 11, .mv (.t 0), none⟩, ⟨some 12, .len (.t 11), none⟩, ⟨some 13, .mv (.c (.int .i64 0)), none⟩])
  (.block 0 (.loop [1, 5, 11, 12, 13] (some 1) (.seq (.ops false [⟨some 14, .bin .lss (.t 13) (.t 12), none⟩])
    (.seq (.cond (.t 14) (.skip)
     (.exit 0))
    (.seq (.block 1 (.seq (.ops false [⟨some 15, .iaddr 2 (.t 11) (.t 13), none⟩, ⟨some 16, .load (some 2) (.t 15), none⟩, ⟨some 7, .alloc [.str [], .nil], none⟩, ⟨none, .store 2 (.t 7) (.t 16), none⟩])
     (.ops true [⟨some 17, .mv (.t 5), none⟩, ⟨some 18, .faddr 0 (.t 7), none⟩, ⟨some 19, .load none (.t 18), none⟩, ⟨some 20, .mv (.t 1), none⟩, ⟨some 21, .load (some 2) (.t 7), none⟩, ⟨some 22, .callvP (.t 20) [(.t 21)], none⟩, ⟨some 23, .callP 30 [(.t 22)], none⟩, ⟨some 24, .build [.str [], .nil] [(0, 1, (.t 19)), (1, 1, (.t 23))], none⟩, ⟨some 25, .bslice true [.str [], .nil] [(some (.t 24))], none⟩, ⟨some 26, .append 2 (.t 17) (.t 25), none⟩, ⟨some 5, .mv (.t 26), none⟩])))
    (.ops false [⟨some 27, .bin .add (.t 13) (.c (.int .i64 1)), none⟩, ⟨some 13, .mv (.t 27), none⟩])))))))
  (.seq (.ops false [⟨some 28, .mv (.t 5), none⟩, ⟨some 4, .mv (.t 28), none⟩])
  (.ret)))),
  [.t 4]⟩

/- noria/mem.Put$1 -/
def d_mem_Put_1 : DFun := ⟨
  .seq (.ops false [⟨some 3, .box (.t 0), none⟩, ⟨some 4, .mv (.c (.nil)), none⟩])
  (.seq (.seq (.ops false [⟨some 5, .faddr 0 (.t 3), none⟩, ⟨some 6, .load none (.t 5), none⟩, ⟨some 7, .load none (.t 1), none⟩, ⟨some 8, .bin .eql (.t 6) (.t 7), none⟩])
  (.cond (.t 8) (.seq (.ops false [⟨some 9, .load none (.t 2), none⟩, ⟨some 4, .mv (.t 9), none⟩])
   (.ret))
   (.skip)))
  (.seq (.ops false [⟨some 10, .faddr 1 (.t 3), none⟩, ⟨some 11, .load none (.t 10), none⟩, ⟨some 4, .mv (.t 11), none⟩])
  (.ret))),
  [.t 4]⟩

/- slices.IndexFunc[[]noria/api.Cell,noria/api.Cell] -/
def d_slices_IndexFunc_api_Cell_api_Cell : DFun := ⟨
  .seq (.ops false [⟨some 4, .mv (.c (.int .i64 0)), none⟩])
  (.seq (.seq (.ops false [⟨some 6, .mv (.t 0), none⟩, ⟨some 7, .len (.t 6), none⟩, ⟨some 8, .mv (.c (.int .i64 0)), none⟩])
  (.block 0 (.loop [0, 1, 7, 8] (some 0) (.seq (.ops false [⟨some 9, .bin .lss (.t 8) (.t 7), none⟩])
    (.seq (.cond (.t 9) (.skip)
     (.exit 0))
    (.seq (.block 1 (.seq (.ops false [⟨some 10, .mv (.t 8), none⟩, ⟨some 5, .mv (.t 10), none⟩])
     (.seq (.ops false [⟨some 11, .mv (.t 1), none⟩, ⟨some 12, .mv (.t 0), none⟩, ⟨some 13, .mv (.t 5), none⟩, ⟨some 14, .iaddr 2 (.t 12) (.t 13), none⟩, ⟨some 15, .load (some 2) (.t 14), none⟩, ⟨some 16, .callvP (.t 11) [(.t 15)], none⟩])
     (.cond (.t 16) (.seq (.ops false [⟨some 17, .mv (.t 5), none⟩, ⟨some 4, .mv (.t 17), none⟩])
      (.ret))
      (.skip)))))
    (.ops false [⟨some 18, .bin .add (.t 8) (.c (.int .i64 1)), none⟩, ⟨some 8, .mv (.t 18), none⟩])))))))
  (.seq (.ops false [⟨some 4, .mv (.c (.int .i64 (-1))), none⟩])
  (.ret))),
  [.t 4]⟩

/- noria/mem.Get$1 -/
def d_mem_Get_1 : DFun := ⟨
  .seq (.ops false [⟨some 2, .box (.t 0), none⟩, ⟨some 3, .mv (.c (.bool false)), none⟩])
  (.seq (.ops false [⟨some 4, .faddr 0 (.t 2), none⟩, ⟨some 5, .load none (.t 4), none⟩, ⟨some 6, .load none (.t 1), none⟩, ⟨some 7, .bin .eql (.t 5) (.t 6), none⟩, ⟨some 3, .mv (.t 7), none⟩])
  (.ret)),
  [.t 3]⟩

/- noria/mem.values -/
def d_mem_values : DFun := ⟨
  .seq (.ops false [⟨some 2, .mv (.c (.nil)), none⟩])
  (.seq (.ops false [⟨some 4, .mv (.t 0), none⟩, ⟨some 5, .len (.t 4), none⟩, ⟨some 6, .make [.int .i64 0] (.t 5) (.t 5), none⟩, ⟨some 3, .mv (.t 6), none⟩])
  (.seq (.ops false [⟨some 7, .mv (.t 3), none⟩, ⟨some 8, .mv (.t 0), none⟩, ⟨some 9, .copy 1 (.t 7) (.t 8), none⟩])
  (.seq (.ops false [⟨some 10, .mv (.t 3), none⟩, ⟨some 2, .mv (.t 10), none⟩])
  (.ret)))),
  [.t 2]⟩

/- strings.CutPrefix -/
def d_strings_CutPrefix : DFun := ⟨
  .seq (.ops false [⟨some 4, .mv (.c (.str [])), none⟩, ⟨some 5, .mv (.c (.bool false)), none⟩])
  (.seq (.ops false [⟨some 6, .mv (.t 0), none⟩, ⟨some 7, .mv (.t 1), none⟩, ⟨some 8, .callP 45 [(.t 6), (.t 7)], none⟩, ⟨some 9, .extract 0 (.t 8), none⟩, ⟨some 10, .extract 1 (.t 8), none⟩, ⟨some 4, .mv (.t 9), none⟩, ⟨some 5, .mv (.t 10), none⟩])
  (.ret)),
  [.t 4, .t 5]⟩

/- noria/noriaref23.rest -/
def d_noriaref23_rest : DFun := ⟨
  .seq (.ops false [⟨some 4, .mv (.c (.str [])), none⟩, ⟨some 5, .mv (.c (.bool false)), none⟩])
  (.seq (.ops false [⟨some 7, .mv (.t 1), none⟩, ⟨some 8, .lenS (.t 7), none⟩, ⟨some 9, .bin .add (.t 8) (.c (.int .i64 1)), none⟩, ⟨some 6, .mv (.t 9), none⟩])
  (.seq (.seq (.ops false [⟨some 10, .mv (.t 0), none⟩, ⟨some 11, .lenS (.t 10), none⟩, ⟨some 12, .mv (.t 6), none⟩, ⟨some 13, .bin .lss (.t 11) (.t 12), none⟩, ⟨some 14, .mv (.t 13), none⟩, ⟨some 15, .mv (.t 0), some (14, false)⟩, ⟨some 16, .mv (.t 6), some (14, false)⟩, ⟨some 17, .sliceS (.t 15) none (some (.t 16)), some (14, false)⟩, ⟨some 18, .mv (.t 1), some (14, false)⟩, ⟨some 19, .bin .add (.t 18) (.c (.str [47])), some (14, false)⟩, ⟨some 20, .bin .neq (.t 17) (.t 19), some (14, false)⟩, ⟨some 21, .pick (.t 14) (.c (.bool true)) (.t 20), none⟩])
  (.cond (.t 21) (.seq (.ops false [⟨some 4, .mv (.c (.str [])), none⟩, ⟨some 5, .mv (.c (.bool false)), none⟩])
   (.ret))
   (.skip)))
  (.seq (.ops false [⟨some 22, .mv (.t 0), none⟩, ⟨some 23, .mv (.t 6), none⟩, ⟨some 24, .sliceS (.t 22) (some (.t 23)) none, none⟩, ⟨some 4, .mv (.t 24), none⟩, ⟨some 5, .mv (.c (.bool true)), none⟩])
  (.ret)))),
  [.t 4, .t 5]⟩

/- noria/mem.Over$1 -/
def d_mem_Over_1 : DFun := ⟨
  .seq (.ops false [⟨some 3, .box (.t 0), none⟩, ⟨some 4, .mv (.c (.nil)), none⟩])
  (.seq (.ops false [⟨some 10, .faddr 0 (.t 3), none⟩, ⟨some 11, .load none (.t 10), none⟩, ⟨some 12, .load none (.t 1), none⟩, ⟨some 13, .bin .add (.t 12) (.c (.str [47])), none⟩, ⟨some 14, .callP 31 [(.t 11), (.t 13)], none⟩, ⟨some 9, .mv (.t 14), none⟩, ⟨some 15, .extract 0 (.t 9), none⟩, ⟨some 16, .extract 1 (.t 9), none⟩, ⟨some 5, .mv (.t 15), none⟩, ⟨some 6, .mv (.t 16), none⟩])
  (.seq (.ops false [⟨some 18, .load none (.t 2), none⟩, ⟨some 19, .mv (.t 5), none⟩, ⟨some 20, .callP 12 [(.t 18), (.t 19)], none⟩, ⟨some 17, .mv (.t 20), none⟩, ⟨some 21, .extract 0 (.t 17), none⟩, ⟨some 22, .extract 1 (.t 17), none⟩, ⟨some 7, .mv (.t 21), none⟩, ⟨some 8, .mv (.t 22), none⟩])
  (.seq (.seq (.ops false [⟨some 23, .mv (.t 6), none⟩, ⟨some 24, .mv (.t 23), none⟩, ⟨some 25, .mv (.t 8), some (24, true)⟩, ⟨some 26, .pick (.t 24) (.t 25) (.c (.bool false)), none⟩])
  (.cond (.t 26) (.seq (.ops false [⟨some 27, .mv (.t 7), none⟩, ⟨some 4, .mv (.t 27), none⟩])
   (.ret))
   (.skip)))
  (.seq (.ops false [⟨some 28, .faddr 1 (.t 3), none⟩, ⟨some 29, .load none (.t 28), none⟩, ⟨some 4, .mv (.t 29), none⟩])
  (.ret))))),
  [.t 4]⟩

/- slices.EqualFunc[[]noria/api.Cell,[]noria/api.Cell,noria/api.Cell,noria/api.Cell] -/
def d_slices_EqualFunc_api_Cell_api_Cell_api_Cell_api_Cell : DFun := ⟨
  .seq (.ops false [⟨some 6, .mv (.c (.bool false)), none⟩])
  (.seq (.seq (.ops false [⟨some 10, .mv (.t 0), none⟩, ⟨some 11, .len (.t 10), none⟩, ⟨some 12, .mv (.t 1), none⟩, ⟨some 13, .len (.t 12), none⟩, ⟨some 14, .bin .neq (.t 11) (.t 13), none⟩])
  (.cond (.t 14) (.seq (.ops false [⟨some 6, .mv (.c (.bool false)), none⟩])
   (.ret))
   (.skip)))
  (.seq (.seq (.ops false [⟨some 15, .mv (.t 0), none⟩, ⟨some 16, .len (.t 15), none⟩, ⟨some 17, .mv (.c (.int .i64 0)), none⟩])
  (.block 0 (.loop [1, 2, 15, 16, 17] (some 0) (.seq (.ops false [⟨some 18, .bin .lss (.t 17) (.t 16), none⟩])
    (.seq (.cond (.t 18) (.skip)
     (.exit 0))
    (.seq (.block 1 (.seq (.ops false [⟨some 19, .mv (.t 17), none⟩, ⟨some 20, .iaddr 2 (.t 15) (.t 17), none⟩, ⟨some 21, .load (some 2) (.t 20), none⟩, ⟨some 8, .alloc [.str [], .nil], none⟩, ⟨some 7, .mv (.t 19), none⟩, ⟨none, .store 2 (.t 8) (.t 21), none⟩])
     (.seq (.ops false [⟨some 22, .mv (.t 1), none⟩, ⟨some 23, .mv (.t 7), none⟩, ⟨some 24, .iaddr 2 (.t 22) (.t 23), none⟩, ⟨some 25, .load (some 2) (.t 24), none⟩, ⟨some 9, .alloc [.str [], .nil], none⟩, ⟨none, .store 2 (.t 9) (.t 25), none⟩])
     (.seq (.ops false [⟨some 26, .mv (.t 2), none⟩, ⟨some 27, .load (some 2) (.t 8), none⟩, ⟨some 28, .load (some 2) (.t 9), none⟩, ⟨some 29, .callvP (.t 26) [(.t 27), (.t 28)], none⟩, ⟨some 30, .un .not (.t 29), none⟩])
     (.cond (.t 30) (.seq (.ops false [⟨some 6, .mv (.c (.bool false)), none⟩])
      (.ret))
      (.skip))))))
    (.ops false [⟨some 31, .bin .add (.t 17) (.c (.int .i64 1)), none⟩, ⟨some 17, .mv (.t 31), none⟩])))))))
  (.seq (.ops false [⟨some 6, .mv (.c (.bool true)), none⟩])
  (.ret)))),
  [.t 6]⟩

/- noria/mem.Same$1 -/
def d_mem_Same_1 : DFun := ⟨
  .seq (.ops false [⟨some 2, .box (.t 0), none⟩, ⟨some 3, .box (.t 1), none⟩, ⟨some 4, .mv (.c (.bool false)), none⟩])
  (.seq (.ops false [⟨some 5, .faddr 0 (.t 2), none⟩, ⟨some 6, .load none (.t 5), none⟩, ⟨some 7, .faddr 0 (.t 3), none⟩, ⟨some 8, .load none (.t 7), none⟩, ⟨some 9, .bin .eql (.t 6) (.t 8), none⟩, ⟨some 10, .mv (.t 9), none⟩, ⟨some 11, .faddr 1 (.t 2), some (10, true)⟩, ⟨some 12, .load none (.t 11), some (10, true)⟩, ⟨some 13, .faddr 1 (.t 3), some (10, true)⟩, ⟨some 14, .load none (.t 13), some (10, true)⟩, ⟨some 15, .callP 36 [(.t 12), (.t 14)], some (10, true)⟩, ⟨some 16, .pick (.t 10) (.t 15) (.c (.bool false)), none⟩, ⟨some 4, .mv (.t 16), none⟩])
  (.ret)),
  [.t 4]⟩

/- slices.Equal[[]int64,int64] -/
def d_slices_Equal_int64_int64 : DFun := ⟨
  .seq (.ops false [⟨some 4, .mv (.c (.bool false)), none⟩])
  (.seq (.seq (.ops false [⟨some 6, .mv (.t 0), none⟩, ⟨some 7, .len (.t 6), none⟩, ⟨some 8, .mv (.t 1), none⟩, ⟨some 9, .len (.t 8), none⟩, ⟨some 10, .bin .neq (.t 7) (.t 9), none⟩])
  (.cond (.t 10) (.seq (.ops false [⟨some 4, .mv (.c (.bool false)), none⟩])
   (.ret))
   (.skip)))
  (.seq (.seq (.ops false [⟨some 11, .mv (.t 0), none⟩, ⟨some 12, .len (.t 11), none⟩, ⟨some 13, .mv (.c (.int .i64 0)), none⟩])
  (.block 0 (.loop [0, 1, 12, 13] (some 0) (.seq (.ops false [⟨some 14, .bin .lss (.t 13) (.t 12), none⟩])
    (.seq (.cond (.t 14) (.skip)
     (.exit 0))
    (.seq (.block 1 (.seq (.ops false [⟨some 15, .mv (.t 13), none⟩, ⟨some 5, .mv (.t 15), none⟩])
     (.seq (.ops true [⟨some 16, .mv (.t 0), none⟩, ⟨some 17, .mv (.t 5), none⟩, ⟨some 18, .iaddr 1 (.t 16) (.t 17), none⟩, ⟨some 19, .load none (.t 18), none⟩, ⟨some 20, .mv (.t 1), none⟩, ⟨some 21, .mv (.t 5), none⟩, ⟨some 22, .iaddr 1 (.t 20) (.t 21), none⟩, ⟨some 23, .load none (.t 22), none⟩, ⟨some 24, .bin .neq (.t 19) (.t 23), none⟩])
     (.cond (.t 24) (.seq (.ops false [⟨some 4, .mv (.c (.bool false)), none⟩])
      (.ret))
      (.skip)))))
    (.ops false [⟨some 25, .bin .add (.t 13) (.c (.int .i64 1)), none⟩, ⟨some 13, .mv (.t 25), none⟩])))))))
  (.seq (.ops false [⟨some 4, .mv (.c (.bool true)), none⟩])
  (.ret)))),
  [.t 4]⟩

/- noria/noriaref22.Few -/
def d_noriaref22_Few : DFun := ⟨
  .seq (.ops false [⟨some 1, .bref (.t 0), none⟩, ⟨some 2, .mv (.c (.bool false)), none⟩])
  (.seq (.ops false [⟨some 3, .load (some 5) (.t 1), none⟩, ⟨some 4, .callP 46 [(.t 3)], none⟩, ⟨some 2, .mv (.t 4), none⟩])
  (.ret)),
  [.t 2]⟩

/- noria/mem.kept -/
def d_mem_kept : DFun := ⟨
  .seq (.ops false [⟨some 1, .bref (.t 0), none⟩, ⟨some 2, .mv (.c (.undef)), none⟩])
  (.seq (.ops false [⟨some 3, .mkfun 47 [(.t 1)], none⟩, ⟨some 2, .mv (.t 3), none⟩])
  (.ret)),
  [.t 2]⟩

/- noria/mem.calls -/
def d_mem_calls : DFun := ⟨
  .seq (.ops false [⟨some 2, .bref (.t 0), none⟩, ⟨some 3, .bref (.t 1), none⟩, ⟨some 4, .mv (.c (.undef)), none⟩])
  (.seq (.ops false [⟨some 5, .mkfun 48 [(.t 2), (.t 3)], none⟩, ⟨some 4, .mv (.t 5), none⟩])
  (.ret)),
  [.t 4]⟩

/- noria/noriaref23.part -/
def d_noriaref23_part : DFun := ⟨
  .seq (.ops false [⟨some 2, .bref (.t 0), none⟩, ⟨some 4, .mv (.c (.bool false)), none⟩, ⟨some 5, .mv (.c (.bool false)), none⟩])
  (.seq (.seq (.ops false [⟨some 6, .faddr 1 (.t 2), none⟩, ⟨some 7, .load none (.t 6), none⟩, ⟨some 8, .len (.t 7), none⟩, ⟨some 9, .bin .eql (.t 8) (.c (.int .i64 0)), none⟩])
  (.cond (.t 9) (.seq (.ops false [⟨some 4, .mv (.c (.bool false)), none⟩, ⟨some 5, .mv (.c (.bool false)), none⟩])
   (.ret))
   (.skip)))
  (.seq (.ops true [⟨some 10, .faddr 0 (.t 2), none⟩, ⟨some 11, .load none (.t 10), none⟩, ⟨some 12, .bin .eql (.t 11) (.c (.int .i64 5)), none⟩, ⟨some 13, .faddr 0 (.t 2), none⟩, ⟨some 14, .load none (.t 13), none⟩, ⟨some 15, .bin .eql (.t 14) (.c (.int .i64 7)), none⟩, ⟨some 16, .mv (.t 15), none⟩, ⟨some 17, .faddr 5 (.t 2), some (16, true)⟩, ⟨some 18, .load none (.t 17), some (16, true)⟩, ⟨some 19, .bin .geq (.t 18) (.c (.int .i64 0)), some (16, true)⟩, ⟨some 20, .pick (.t 16) (.t 19) (.c (.bool false)), none⟩, ⟨some 21, .mv (.t 20), none⟩, ⟨some 22, .faddr 5 (.t 2), some (21, true)⟩, ⟨some 23, .load none (.t 22), some (21, true)⟩, ⟨some 24, .mv (.t 1), some (21, true)⟩, ⟨some 25, .bin .lss (.t 23) (.t 24), some (21, true)⟩, ⟨some 26, .pick (.t 21) (.t 25) (.c (.bool false)), none⟩, ⟨some 4, .mv (.t 12), none⟩, ⟨some 5, .mv (.t 26), none⟩])
  (.ret))),
  [.t 4, .t 5]⟩

/- noria/noriaref23.cut -/
def d_noriaref23_cut : DFun := ⟨
  .seq (.ops false [⟨some 2, .mv (.c (.int .i64 0)), none⟩])
  (.seq (.ops false [⟨some 3, .mv (.t 0), none⟩, ⟨some 4, .minmax false (.t 3) (.c (.int .i64 1000)), none⟩, ⟨some 2, .mv (.t 4), none⟩])
  (.ret)),
  [.t 2]⟩

/- noria/mem.below -/
def d_mem_below : DFun := ⟨
  .seq (.ops false [⟨some 4, .bref (.t 0), none⟩, ⟨some 6, .bref (.t 2), none⟩, ⟨some 7, .box (.t 3), none⟩])
  (.seq (.seq (.ops false [⟨some 10, .faddr 1 (.t 4), none⟩, ⟨some 11, .load none (.t 10), none⟩, ⟨some 12, .mv (.t 1), none⟩, ⟨some 13, .iaddr 5 (.t 11) (.t 12), none⟩, ⟨some 14, .load (some 5) (.t 13), none⟩, ⟨some 15, .callP 38 [(.t 14)], none⟩])
  (.block 0 (.rangeF [1, 4, 6, 7, 9, 32] none (.t 15) [16] (.ops false [⟨some 8, .alloc [.int .i64 0, .nil, .int .i64 0, .nil, .nil, .int .i64 0, .bool false, .str [], .int .i64 0, .nil], none⟩, ⟨none, .store 10 (.t 8) (.t 16), none⟩]) (.block 1 (.ops true [⟨some 17, .load none (.t 7), none⟩, ⟨some 18, .load none (.t 6), none⟩, ⟨some 19, .faddr 1 (.t 8), none⟩, ⟨some 20, .load none (.t 19), none⟩, ⟨some 21, .iaddr 1 (.t 20) (.c (.int .i64 0)), none⟩, ⟨some 22, .load none (.t 21), none⟩, ⟨some 23, .bin .add (.t 18) (.t 22), none⟩, ⟨some 24, .faddr 4 (.t 8), none⟩, ⟨some 25, .load none (.t 24), none⟩, ⟨some 26, .callP 30 [(.t 25)], none⟩, ⟨some 27, .build [.str [], .nil] [(0, 1, (.t 23)), (1, 1, (.t 26))], none⟩, ⟨some 28, .callvH (.t 17) [(.t 27)], none⟩])))))
  (.seq (.ops false [⟨some 29, .load (some 2) (.t 4), none⟩, ⟨some 30, .mv (.t 1), none⟩, ⟨some 31, .callP 39 [(.t 29), (.t 30)], none⟩])
  (.block 2 (.rangeF [4, 6, 7] none (.t 31) [32] (.ops false [⟨some 9, .alloc [.int .i64 0, .nil, .int .i64 0, .nil, .nil, .int .i64 0, .bool false, .str [], .int .i64 0, .nil], none⟩, ⟨none, .store 10 (.t 9) (.t 32), none⟩]) (.block 3 (.ops true [⟨some 33, .load (some 2) (.t 4), none⟩, ⟨some 34, .faddr 5 (.t 9), none⟩, ⟨some 35, .load none (.t 34), none⟩, ⟨some 36, .load none (.t 6), none⟩, ⟨some 37, .faddr 1 (.t 9), none⟩, ⟨some 38, .load none (.t 37), none⟩, ⟨some 39, .iaddr 1 (.t 38) (.c (.int .i64 0)), none⟩, ⟨some 40, .load none (.t 39), none⟩, ⟨some 41, .bin .add (.t 36) (.t 40), none⟩, ⟨some 42, .bin .add (.t 41) (.c (.str [47])), none⟩, ⟨some 43, .load none (.t 7), none⟩, ⟨some 44, .callH 42 [(.t 33), (.t 35), (.t 42), (.t 43)], none⟩])))))),
  []⟩

/- noria/mem.Start$1 -/
def d_mem_Start_1 : DFun := ⟨
  .seq (.ops false [⟨some 2, .bref (.t 0), none⟩])
  (.ops false [⟨some 3, .load none (.t 1), none⟩, ⟨some 4, .load (some 2) (.t 2), none⟩, ⟨some 5, .bslice true [.str [], .nil] [(some (.t 4))], none⟩, ⟨some 6, .append 2 (.t 3) (.t 5), none⟩, ⟨none, .store 1 (.t 1) (.t 6), none⟩]),
  []⟩

/- noria/noriaref23.start -/
def d_noriaref23_start : DFun := ⟨
  .seq (.ops false [⟨some 2, .bref (.t 0), none⟩, ⟨some 4, .mv (.c (.nil)), none⟩])
  (.seq (.ops false [⟨some 15, .bslice false [.str [], .nil] [], none⟩, ⟨some 5, .mv (.t 15), none⟩])
  (.seq (.ops false [⟨some 16, .faddr 1 (.t 2), none⟩, ⟨some 17, .load none (.t 16), none⟩, ⟨some 18, .mv (.t 1), none⟩, ⟨some 19, .iaddr 5 (.t 17) (.t 18), none⟩, ⟨some 20, .load (some 5) (.t 19), none⟩, ⟨some 6, .alloc [.str [], .nil, .nil, .nil, .nil], none⟩, ⟨none, .store 5 (.t 6) (.t 20), none⟩])
  (.seq (.seq (.ops false [⟨some 7, .mv (.c (.int .i64 0)), none⟩])
  (.block 0 (.loop [1, 2, 5, 6, 7] (some 2) (.seq (.seq (.ops false [⟨some 21, .mv (.t 7), none⟩, ⟨some 22, .faddr 4 (.t 6), none⟩, ⟨some 23, .load none (.t 22), none⟩, ⟨some 24, .len (.t 23), none⟩, ⟨some 25, .bin .lss (.t 21) (.t 24), none⟩])
    (.cond (.t 25) (.skip)
     (.exit 0)))
    (.seq (.block 1 (.seq (.ops false [⟨some 29, .faddr 4 (.t 6), none⟩, ⟨some 30, .load none (.t 29), none⟩, ⟨some 31, .mv (.t 7), none⟩, ⟨some 32, .iaddr 10 (.t 30) (.t 31), none⟩, ⟨some 33, .load (some 10) (.t 32), none⟩, ⟨some 34, .mv (.t 1), none⟩, ⟨some 35, .callP 40 [(.t 33), (.t 34)], none⟩, ⟨some 28, .mv (.t 35), none⟩, ⟨some 36, .extract 0 (.t 28), none⟩, ⟨some 37, .extract 1 (.t 28), none⟩, ⟨some 8, .mv (.t 36), none⟩, ⟨some 9, .mv (.t 37), none⟩])
     (.seq (.ops false [⟨some 38, .mv (.t 8), none⟩])
     (.cond (.t 38) (.ops true [⟨some 39, .mv (.t 5), none⟩, ⟨some 40, .faddr 4 (.t 6), none⟩, ⟨some 41, .load none (.t 40), none⟩, ⟨some 42, .mv (.t 7), none⟩, ⟨some 43, .iaddr 10 (.t 41) (.t 42), none⟩, ⟨some 44, .faddr 1 (.t 43), none⟩, ⟨some 45, .load none (.t 44), none⟩, ⟨some 46, .iaddr 1 (.t 45) (.c (.int .i64 0)), none⟩, ⟨some 47, .load none (.t 46), none⟩, ⟨some 48, .faddr 4 (.t 6), none⟩, ⟨some 49, .load none (.t 48), none⟩, ⟨some 50, .mv (.t 7), none⟩, ⟨some 51, .iaddr 10 (.t 49) (.t 50), none⟩, ⟨some 52, .faddr 4 (.t 51), none⟩, ⟨some 53, .load none (.t 52), none⟩, ⟨some 54, .build [.str [], .nil] [(0, 1, (.t 47)), (1, 1, (.t 53))], none⟩, ⟨some 55, .bslice true [.str [], .nil] [(some (.t 54))], none⟩, ⟨some 56, .append 2 (.t 39) (.t 55), none⟩, ⟨some 5, .mv (.t 56), none⟩])
      (.skip)))))
    (.ops false [⟨some 26, .mv (.t 7), none⟩, ⟨some 27, .bin .add (.t 26) (.c (.int .i64 1)), none⟩, ⟨some 7, .mv (.t 27), none⟩]))))))
  (.seq (.seq (.ops false [⟨some 10, .mv (.c (.int .i64 0)), none⟩])
  (.block 2 (.loop [1, 2, 5, 6, 10] (some 2) (.seq (.seq (.ops false [⟨some 57, .mv (.t 10), none⟩, ⟨some 58, .faddr 4 (.t 6), none⟩, ⟨some 59, .load none (.t 58), none⟩, ⟨some 60, .len (.t 59), none⟩, ⟨some 61, .bin .lss (.t 57) (.t 60), none⟩])
    (.cond (.t 61) (.skip)
     (.exit 2)))
    (.seq (.block 3 (.seq (.ops false [⟨some 65, .faddr 4 (.t 6), none⟩, ⟨some 66, .load none (.t 65), none⟩, ⟨some 67, .mv (.t 10), none⟩, ⟨some 68, .iaddr 10 (.t 66) (.t 67), none⟩, ⟨some 69, .load (some 10) (.t 68), none⟩, ⟨some 70, .mv (.t 1), none⟩, ⟨some 71, .callP 40 [(.t 69), (.t 70)], none⟩, ⟨some 64, .mv (.t 71), none⟩, ⟨some 72, .extract 0 (.t 64), none⟩, ⟨some 73, .extract 1 (.t 64), none⟩, ⟨some 11, .mv (.t 72), none⟩, ⟨some 12, .mv (.t 73), none⟩])
     (.seq (.seq (.ops false [⟨some 74, .mv (.t 12), none⟩, ⟨some 75, .un .not (.t 74), none⟩])
     (.cond (.t 75) (.exit 3)
      (.skip)))
     (.seq (.ops true [⟨some 76, .load (some 2) (.t 2), none⟩, ⟨some 77, .faddr 4 (.t 6), none⟩, ⟨some 78, .load none (.t 77), none⟩, ⟨some 79, .mv (.t 10), none⟩, ⟨some 80, .iaddr 10 (.t 78) (.t 79), none⟩, ⟨some 81, .faddr 5 (.t 80), none⟩, ⟨some 82, .load none (.t 81), none⟩, ⟨some 83, .callP 44 [(.t 76), (.t 82)], none⟩, ⟨some 13, .mv (.t 83), none⟩])
     (.seq (.ops false [⟨some 14, .mv (.c (.int .i64 0)), none⟩])
     (.block 4 (.loop [1, 2, 5, 6, 10, 13, 14] (some 2) (.seq (.seq (.ops false [⟨some 84, .mv (.t 14), none⟩, ⟨some 85, .mv (.t 13), none⟩, ⟨some 86, .len (.t 85), none⟩, ⟨some 87, .bin .lss (.t 84) (.t 86), none⟩])
       (.cond (.t 87) (.skip)
        (.exit 4)))
       (.seq (.block 5 (.ops true [⟨some 90, .mv (.t 5), none⟩, ⟨some 91, .faddr 4 (.t 6), none⟩, ⟨some 92, .load none (.t 91), none⟩, ⟨some 93, .mv (.t 10), none⟩, ⟨some 94, .iaddr 10 (.t 92) (.t 93), none⟩, ⟨some 95, .faddr 1 (.t 94), none⟩, ⟨some 96, .load none (.t 95), none⟩, ⟨some 97, .iaddr 1 (.t 96) (.c (.int .i64 0)), none⟩, ⟨some 98, .load none (.t 97), none⟩, ⟨some 99, .bin .add (.t 98) (.c (.str [47])), none⟩, ⟨some 100, .mv (.t 13), none⟩, ⟨some 101, .mv (.t 14), none⟩, ⟨some 102, .iaddr 2 (.t 100) (.t 101), none⟩, ⟨some 103, .faddr 0 (.t 102), none⟩, ⟨some 104, .load none (.t 103), none⟩, ⟨some 105, .bin .add (.t 99) (.t 104), none⟩, ⟨some 106, .mv (.t 13), none⟩, ⟨some 107, .mv (.t 14), none⟩, ⟨some 108, .iaddr 2 (.t 106) (.t 107), none⟩, ⟨some 109, .faddr 1 (.t 108), none⟩, ⟨some 110, .load none (.t 109), none⟩, ⟨some 111, .build [.str [], .nil] [(0, 1, (.t 105)), (1, 1, (.t 110))], none⟩, ⟨some 112, .bslice true [.str [], .nil] [(some (.t 111))], none⟩, ⟨some 113, .append 2 (.t 90) (.t 112), none⟩, ⟨some 5, .mv (.t 113), none⟩]))
       (.ops false [⟨some 88, .mv (.t 14), none⟩, ⟨some 89, .bin .add (.t 88) (.c (.int .i64 1)), none⟩, ⟨some 14, .mv (.t 89), none⟩]))))))))))
    (.ops false [⟨some 62, .mv (.t 10), none⟩, ⟨some 63, .bin .add (.t 62) (.c (.int .i64 1)), none⟩, ⟨some 10, .mv (.t 63), none⟩]))))))
  (.seq (.ops false [⟨some 114, .mv (.t 5), none⟩, ⟨some 4, .mv (.t 114), none⟩])
  (.ret)))))),
  [.t 4]⟩

/- internal/stringslite.CutPrefix -/
def d_internal_stringslite_CutPrefix : DFun := ⟨
  .seq (.ops false [⟨some 4, .mv (.c (.str [])), none⟩, ⟨some 5, .mv (.c (.bool false)), none⟩])
  (.seq (.seq (.ops false [⟨some 6, .mv (.t 0), none⟩, ⟨some 7, .mv (.t 1), none⟩, ⟨some 8, .callP 49 [(.t 6), (.t 7)], none⟩, ⟨some 9, .un .not (.t 8), none⟩])
  (.cond (.t 9) (.seq (.ops false [⟨some 10, .mv (.t 0), none⟩, ⟨some 4, .mv (.t 10), none⟩, ⟨some 5, .mv (.c (.bool false)), none⟩])
   (.ret))
   (.skip)))
  (.seq (.ops false [⟨some 11, .mv (.t 0), none⟩, ⟨some 12, .mv (.t 1), none⟩, ⟨some 13, .lenS (.t 12), none⟩, ⟨some 14, .sliceS (.t 11) (some (.t 13)) none, none⟩, ⟨some 4, .mv (.t 14), none⟩, ⟨some 5, .mv (.c (.bool true)), none⟩])
  (.ret))),
  [.t 4, .t 5]⟩

/- noria/noriaref22.few -/
def d_noriaref22_few : DFun := ⟨
  .seq (.ops false [⟨some 1, .bref (.t 0), none⟩, ⟨some 2, .mv (.c (.bool false)), none⟩])
  (.seq (.seq (.ops false [⟨some 3, .mv (.c (.int .i64 0)), none⟩])
  (.block 0 (.loop [1, 3] (some 0) (.seq (.seq (.ops false [⟨some 4, .mv (.t 3), none⟩, ⟨some 5, .faddr 4 (.t 1), none⟩, ⟨some 6, .load none (.t 5), none⟩, ⟨some 7, .len (.t 6), none⟩, ⟨some 8, .bin .lss (.t 4) (.t 7), none⟩])
    (.cond (.t 8) (.skip)
     (.exit 0)))
    (.seq (.block 1 (.seq (.ops false [⟨some 11, .faddr 4 (.t 1), none⟩, ⟨some 12, .load none (.t 11), none⟩, ⟨some 13, .mv (.t 3), none⟩, ⟨some 14, .iaddr 10 (.t 12) (.t 13), none⟩, ⟨some 15, .faddr 1 (.t 14), none⟩, ⟨some 16, .load none (.t 15), none⟩, ⟨some 17, .len (.t 16), none⟩, ⟨some 18, .bin .gtr (.t 17) (.c (.int .i64 10)), none⟩, ⟨some 19, .mv (.t 18), none⟩, ⟨some 20, .faddr 4 (.t 1), some (19, false)⟩, ⟨some 21, .load none (.t 20), some (19, false)⟩, ⟨some 22, .mv (.t 3), some (19, false)⟩, ⟨some 23, .iaddr 10 (.t 21) (.t 22), some (19, false)⟩, ⟨some 24, .faddr 3 (.t 23), some (19, false)⟩, ⟨some 25, .load none (.t 24), some (19, false)⟩, ⟨some 26, .len (.t 25), some (19, false)⟩, ⟨some 27, .bin .gtr (.t 26) (.c (.int .i64 10)), some (19, false)⟩, ⟨some 28, .pick (.t 19) (.c (.bool true)) (.t 27), none⟩, ⟨some 29, .mv (.t 28), none⟩, ⟨some 30, .faddr 4 (.t 1), some (29, false)⟩, ⟨some 31, .load none (.t 30), some (29, false)⟩, ⟨some 32, .mv (.t 3), some (29, false)⟩, ⟨some 33, .iaddr 10 (.t 31) (.t 32), some (29, false)⟩, ⟨some 34, .faddr 9 (.t 33), some (29, false)⟩, ⟨some 35, .load none (.t 34), some (29, false)⟩, ⟨some 36, .len (.t 35), some (29, false)⟩, ⟨some 37, .bin .gtr (.t 36) (.c (.int .i64 10)), some (29, false)⟩, ⟨some 38, .pick (.t 29) (.c (.bool true)) (.t 37), none⟩])
     (.cond (.t 38) (.seq (.ops false [⟨some 2, .mv (.c (.bool false)), none⟩])
      (.ret))
      (.skip))))
    (.ops false [⟨some 9, .mv (.t 3), none⟩, ⟨some 10, .bin .add (.t 9) (.c (.int .i64 1)), none⟩, ⟨some 3, .mv (.t 10), none⟩]))))))
  (.seq (.ops false [⟨some 39, .faddr 4 (.t 1), none⟩, ⟨some 40, .load none (.t 39), none⟩, ⟨some 41, .len (.t 40), none⟩, ⟨some 42, .bin .leq (.t 41) (.c (.int .i64 60)), none⟩, ⟨some 2, .mv (.t 42), none⟩])
  (.ret))),
  [.t 2]⟩

/- noria/mem.kept$1 -/
def d_mem_kept_1 : DFun := ⟨
  .seq (.ops false [⟨some 5, .faddr 4 (.t 1), none⟩, ⟨some 6, .load none (.t 5), none⟩, ⟨some 7, .len (.t 6), none⟩, ⟨some 8, .mv (.c (.int .i64 0)), none⟩])
  (.block 0 (.loop [0, 6, 7, 8] (some 0) (.seq (.ops false [⟨some 9, .bin .lss (.t 8) (.t 7), none⟩])
    (.seq (.cond (.t 9) (.skip)
     (.exit 0))
    (.seq (.block 1 (.seq (.ops false [⟨some 10, .iaddr 10 (.t 6) (.t 8), none⟩, ⟨some 11, .load (some 10) (.t 10), none⟩, ⟨some 4, .alloc [.int .i64 0, .nil, .int .i64 0, .nil, .nil, .int .i64 0, .bool false, .str [], .int .i64 0, .nil], none⟩, ⟨none, .store 10 (.t 4) (.t 11), none⟩])
     (.seq (.ops false [⟨some 12, .faddr 0 (.t 4), none⟩, ⟨some 13, .load none (.t 12), none⟩, ⟨some 14, .bin .eql (.t 13) (.c (.int .i64 5)), none⟩, ⟨some 15, .mv (.t 14), none⟩, ⟨some 16, .faddr 1 (.t 4), some (15, true)⟩, ⟨some 17, .load none (.t 16), some (15, true)⟩, ⟨some 18, .len (.t 17), some (15, true)⟩, ⟨some 19, .bin .gtr (.t 18) (.c (.int .i64 0)), some (15, true)⟩, ⟨some 20, .pick (.t 15) (.t 19) (.c (.bool false)), none⟩, ⟨some 21, .mv (.t 20), none⟩, ⟨some 22, .mv (.t 0), some (21, true)⟩, ⟨some 23, .load (some 10) (.t 4), some (21, true)⟩, ⟨some 24, .callvP (.t 22) [(.t 23)], some (21, true)⟩, ⟨some 25, .un .not (.t 24), some (21, true)⟩, ⟨some 26, .pick (.t 21) (.t 25) (.c (.bool false)), none⟩])
     (.cond (.t 26) (.ret)
      (.skip)))))
    (.ops false [⟨some 27, .bin .add (.t 8) (.c (.int .i64 1)), none⟩, ⟨some 8, .mv (.t 27), none⟩])))))),
  []⟩

/- noria/mem.calls$1 -/
def d_mem_calls_1 : DFun := ⟨
  .seq (.ops false [⟨some 7, .faddr 1 (.t 1), none⟩, ⟨some 8, .load none (.t 7), none⟩, ⟨some 9, .load none (.t 2), none⟩, ⟨some 10, .iaddr 5 (.t 8) (.t 9), none⟩, ⟨some 11, .faddr 4 (.t 10), none⟩, ⟨some 12, .load none (.t 11), none⟩, ⟨some 13, .len (.t 12), none⟩, ⟨some 14, .mv (.c (.int .i64 0)), none⟩])
  (.block 0 (.loop [0, 2, 12, 13, 14] (some 0) (.seq (.ops false [⟨some 15, .bin .lss (.t 14) (.t 13), none⟩])
    (.seq (.cond (.t 15) (.skip)
     (.exit 0))
    (.seq (.block 1 (.seq (.ops false [⟨some 16, .iaddr 10 (.t 12) (.t 14), none⟩, ⟨some 17, .load (some 10) (.t 16), none⟩, ⟨some 5, .alloc [.int .i64 0, .nil, .int .i64 0, .nil, .nil, .int .i64 0, .bool false, .str [], .int .i64 0, .nil], none⟩, ⟨none, .store 10 (.t 5) (.t 17), none⟩])
     (.seq (.ops false [⟨some 18, .faddr 0 (.t 5), none⟩, ⟨some 19, .load none (.t 18), none⟩, ⟨some 20, .bin .eql (.t 19) (.c (.int .i64 7)), none⟩, ⟨some 21, .mv (.t 20), none⟩, ⟨some 22, .faddr 1 (.t 5), some (21, true)⟩, ⟨some 23, .load none (.t 22), some (21, true)⟩, ⟨some 24, .len (.t 23), some (21, true)⟩, ⟨some 25, .bin .gtr (.t 24) (.c (.int .i64 0)), some (21, true)⟩, ⟨some 26, .pick (.t 21) (.t 25) (.c (.bool false)), none⟩, ⟨some 27, .mv (.t 26), none⟩, ⟨some 28, .faddr 5 (.t 5), some (27, true)⟩, ⟨some 29, .load none (.t 28), some (27, true)⟩, ⟨some 30, .bin .geq (.t 29) (.c (.int .i64 0)), some (27, true)⟩, ⟨some 31, .pick (.t 27) (.t 30) (.c (.bool false)), none⟩, ⟨some 32, .mv (.t 31), none⟩, ⟨some 33, .faddr 5 (.t 5), some (32, true)⟩, ⟨some 34, .load none (.t 33), some (32, true)⟩, ⟨some 35, .load none (.t 2), some (32, true)⟩, ⟨some 36, .bin .lss (.t 34) (.t 35), some (32, true)⟩, ⟨some 37, .pick (.t 32) (.t 36) (.c (.bool false)), none⟩, ⟨some 6, .mv (.t 37), none⟩])
     (.seq (.ops false [⟨some 38, .mv (.t 6), none⟩, ⟨some 39, .mv (.t 38), none⟩, ⟨some 40, .mv (.t 0), some (39, true)⟩, ⟨some 41, .load (some 10) (.t 5), some (39, true)⟩, ⟨some 42, .callvP (.t 40) [(.t 41)], some (39, true)⟩, ⟨some 43, .un .not (.t 42), some (39, true)⟩, ⟨some 44, .pick (.t 39) (.t 43) (.c (.bool false)), none⟩])
     (.cond (.t 44) (.ret)
      (.skip))))))
    (.ops false [⟨some 45, .bin .add (.t 14) (.c (.int .i64 1)), none⟩, ⟨some 14, .mv (.t 45), none⟩])))))),
  []⟩

/- internal/stringslite.HasPrefix -/
def d_internal_stringslite_HasPrefix : DFun := ⟨
  .seq (.ops false [⟨some 4, .mv (.c (.bool false)), none⟩])
  (.seq (.ops false [⟨some 5, .mv (.t 0), none⟩, ⟨some 6, .lenS (.t 5), none⟩, ⟨some 7, .mv (.t 1), none⟩, ⟨some 8, .lenS (.t 7), none⟩, ⟨some 9, .bin .geq (.t 6) (.t 8), none⟩, ⟨some 10, .mv (.t 9), none⟩, ⟨some 11, .mv (.t 0), some (10, true)⟩, ⟨some 12, .mv (.t 1), some (10, true)⟩, ⟨some 13, .lenS (.t 12), some (10, true)⟩, ⟨some 14, .sliceS (.t 11) none (some (.t 13)), some (10, true)⟩, ⟨some 15, .mv (.t 1), some (10, true)⟩, ⟨some 16, .bin .eql (.t 14) (.t 15), some (10, true)⟩, ⟨some 17, .pick (.t 10) (.t 16) (.c (.bool false)), none⟩, ⟨some 4, .mv (.t 17), none⟩])
  (.ret)),
  [.t 4]⟩

end Go.Proofs.Ytlbemkkfgijljaa
