/- The data-level reading of the functions. -/
import Derived.Test.YtpohoagllmocnaaNkZ
set_option linter.unusedSimpArgs false
set_option linter.unusedVariables false
namespace Go.Proofs.Ytpohoagllmocnaa
open Go.Nk

def c_norialaw03_ReaderReads_1 : DCode := (.seq (.opsP [(0, ⟨some 69, .mv (.t 5), none⟩), (2, ⟨some 71, .mv (.t 6), none⟩), (3, ⟨some 72, .nilck (.t 71), none⟩), (4, ⟨some 73, .faddr 2 (.t 72), none⟩), (5, ⟨some 74, .load none (.t 73), none⟩), (1, ⟨some 70, .rd (.callH 18 [(.t 69)]), none⟩), (6, ⟨some 75, .beq false (.t 70) (.t 74), none⟩), (7, ⟨some 76, .mv (.t 75), none⟩), (8, ⟨some 77, .mv (.t 5), some (76, false)⟩), (10, ⟨some 79, .mv (.t 6), some (76, false)⟩), (11, ⟨some 80, .nilck (.t 79), some (76, false)⟩), (12, ⟨some 81, .faddr 1 (.t 80), some (76, false)⟩), (13, ⟨some 82, .load none (.t 81), some (76, false)⟩), (9, ⟨some 78, .rd (.callH 19 [(.t 77)]), some (76, false)⟩), (14, ⟨some 83, .bin .neq (.t 78) (.t 82), some (76, false)⟩), (15, ⟨some 84, .pick (.t 76) (.c (.bool true)) (.t 83), none⟩), (16, ⟨some 85, .mv (.t 84), none⟩), (17, ⟨some 86, .mv (.t 5), some (85, false)⟩), (19, ⟨some 88, .mv (.t 6), some (85, false)⟩), (18, ⟨some 87, .rd (.callH 20 [(.t 86)]), some (85, false)⟩), (20, ⟨some 89, .rd (.callH 21 [(.t 88)]), some (85, false)⟩), (21, ⟨some 90, .beq true (.t 87) (.t 89), some (85, false)⟩), (22, ⟨some 91, .pick (.t 85) (.c (.bool true)) (.t 90), none⟩)])
     (.cond (.t 91) (.seq (.ops false [⟨some 4, .mv (.c (.bool false)), none⟩])
      (.ret))
      (.skip)))

/- noria/norialaw03.ReaderReads -/
def d_norialaw03_ReaderReads : DFun := ⟨
  .seq (.ops false [⟨some 4, .mv (.c (.bool false)), none⟩])
  (.seq (.seq (.ops false [⟨some 8, .mv (.t 0), none⟩, ⟨some 9, .len (.t 8), none⟩, ⟨some 10, .bin .gtr (.t 9) (.c (.int .i64 1000)), none⟩, ⟨some 11, .mv (.t 10), none⟩, ⟨some 12, .mv (.t 1), some (11, false)⟩, ⟨some 13, .len (.t 12), some (11, false)⟩, ⟨some 14, .bin .gtr (.t 13) (.c (.int .i64 40)), some (11, false)⟩, ⟨some 15, .pick (.t 11) (.c (.bool true)) (.t 14), none⟩])
  (.cond (.t 15) (.seq (.ops false [⟨some 16, .callP 6 [], none⟩, ⟨some 4, .mv (.t 16), none⟩])
   (.ret))
   (.skip)))
  (.seq (.ops false [⟨some 17, .mv (.t 0), none⟩, ⟨some 18, .callH 7 [(.t 17)], none⟩, ⟨some 19, .mv (.t 0), none⟩, ⟨some 20, .callH 8 [(.t 19)], none⟩, ⟨some 5, .mv (.t 18), none⟩, ⟨some 6, .mv (.t 20), none⟩])
  (.seq (.seq (.ops false [⟨some 7, .mv (.c (.int .i64 0)), none⟩])
  (.block 0 (.loop [1, 5, 6, 7] (some 2) (.seq (.seq (.ops false [⟨some 21, .mv (.t 7), none⟩, ⟨some 22, .mv (.t 1), none⟩, ⟨some 23, .len (.t 22), none⟩, ⟨some 24, .bin .lss (.t 21) (.t 23), none⟩])
    (.cond (.t 24) (.skip)
     (.exit 0)))
    (.seq (.block 1 (.seq (.seq (.ops false [⟨some 27, .mv (.t 1), none⟩, ⟨some 28, .mv (.t 7), none⟩, ⟨some 29, .iaddr 5 (.t 27) (.t 28), none⟩, ⟨some 30, .faddr 0 (.t 29), none⟩, ⟨some 31, .load none (.t 30), none⟩])
     (.block 2 (.seq (.ops false [⟨some 39, .bin .eql (.t 31) (.c (.int .i64 0)), none⟩, ⟨some 38, .mv (.t 39), none⟩])
      (.cond (.t 38) (.seq (.opsP [(0, ⟨some 40, .mv (.t 5), none⟩), (1, ⟨some 41, .mv (.t 1), none⟩), (2, ⟨some 42, .mv (.t 7), none⟩), (3, ⟨some 43, .im (.iaddr 5 (.t 41) (.t 42)), none⟩), (4, ⟨some 44, .im (.faddr 2 (.t 43)), none⟩), (5, ⟨some 45, .im (.load none (.t 44)), none⟩), (7, ⟨some 47, .mv (.t 6), none⟩), (8, ⟨some 48, .mv (.t 1), none⟩), (9, ⟨some 49, .mv (.t 7), none⟩), (10, ⟨some 50, .im (.iaddr 5 (.t 48) (.t 49)), none⟩), (11, ⟨some 51, .im (.faddr 2 (.t 50)), none⟩), (12, ⟨some 52, .im (.load none (.t 51)), none⟩), (6, ⟨some 46, .callH 9 [(.t 40), (.t 45)], none⟩), (13, ⟨some 53, .callH 10 [(.t 47), (.t 52)], none⟩), (14, ⟨some 54, .bin .neq (.t 46) (.t 53), none⟩)])
       (.cond (.t 54) (.seq (.ops false [⟨some 4, .mv (.c (.bool false)), none⟩])
        (.ret))
        (.skip)))
       (.seq (.ops false [⟨some 56, .bin .eql (.t 31) (.c (.int .i64 1)), none⟩, ⟨some 55, .mv (.t 56), none⟩])
       (.cond (.t 55) (.seq (.ops false [⟨some 57, .mv (.t 5), none⟩, ⟨some 58, .callH 11 [(.t 57)], none⟩, ⟨some 59, .mv (.t 6), none⟩, ⟨some 60, .callH 12 [(.t 59)], none⟩, ⟨some 61, .bin .neq (.t 58) (.t 60), none⟩])
        (.cond (.t 61) (.seq (.ops false [⟨some 4, .mv (.c (.bool false)), none⟩])
         (.ret))
         (.skip)))
        (.seq (.ops false [⟨some 63, .bin .eql (.t 31) (.c (.int .i64 2)), none⟩, ⟨some 62, .mv (.t 63), none⟩])
        (.cond (.t 62) (.seq (.ops false [⟨some 64, .mv (.t 5), none⟩, ⟨some 65, .callH 13 [(.t 64)], none⟩, ⟨some 66, .mv (.t 6), none⟩, ⟨some 67, .callH 14 [(.t 66)], none⟩, ⟨some 68, .bin .neq (.t 65) (.t 67), none⟩])
         (.cond (.t 68) (.seq (.ops false [⟨some 4, .mv (.c (.bool false)), none⟩])
          (.ret))
          (.skip)))
         (.seq (.ops false [⟨some 32, .mv (.t 5), none⟩, ⟨some 33, .callH 16 [(.t 32)], none⟩, ⟨some 34, .mv (.t 6), none⟩, ⟨some 35, .callH 17 [(.t 34)], none⟩, ⟨some 36, .callP 15 [(.t 33), (.t 35)], none⟩, ⟨some 37, .un .not (.t 36), none⟩])
         (.cond (.t 37) (.seq (.ops false [⟨some 4, .mv (.c (.bool false)), none⟩])
          (.ret))
          (.skip)))))))))))
     (.cut [1, 5, 6, 7] (some 2) c_norialaw03_ReaderReads_1)))
    (.ops false [⟨some 25, .mv (.t 7), none⟩, ⟨some 26, .bin .add (.t 25) (.c (.int .i64 1)), none⟩, ⟨some 7, .mv (.t 26), none⟩]))))))
  (.seq (.ops false [⟨some 92, .callP 6 [], none⟩, ⟨some 4, .mv (.t 92), none⟩])
  (.ret))))),
  [.t 4]⟩

def c_norialaw03_ReaderWrites_1 : DCode := (.seq (.opsP [(0, ⟨some 85, .mv (.t 3), none⟩), (2, ⟨some 87, .mv (.t 4), none⟩), (3, ⟨some 88, .nilck (.t 87), none⟩), (4, ⟨some 89, .faddr 1 (.t 88), none⟩), (5, ⟨some 90, .load none (.t 89), none⟩), (1, ⟨some 86, .rd (.callH 31 [(.t 85)]), none⟩), (6, ⟨some 91, .beq false (.t 86) (.t 90), none⟩), (7, ⟨some 92, .mv (.t 91), none⟩), (8, ⟨some 93, .mv (.t 3), some (92, false)⟩), (10, ⟨some 95, .mv (.t 4), some (92, false)⟩), (11, ⟨some 96, .nilck (.t 95), some (92, false)⟩), (12, ⟨some 97, .faddr 0 (.t 96), some (92, false)⟩), (13, ⟨some 98, .load none (.t 97), some (92, false)⟩), (9, ⟨some 94, .al (.callH 32 [(.t 93)]), some (92, false)⟩), (14, ⟨some 99, .rd (.callP 15 [(.t 94), (.t 98)]), some (92, false)⟩), (15, ⟨some 100, .un .not (.t 99), some (92, false)⟩), (16, ⟨some 101, .pick (.t 92) (.c (.bool true)) (.t 100), none⟩)])
     (.cond (.t 101) (.seq (.ops false [⟨some 2, .mv (.c (.bool false)), none⟩])
      (.ret))
      (.skip)))

/- noria/norialaw03.ReaderWrites -/
def d_norialaw03_ReaderWrites : DFun := ⟨
  .seq (.ops false [⟨some 2, .mv (.c (.bool false)), none⟩])
  (.seq (.seq (.ops false [⟨some 7, .mv (.t 0), none⟩, ⟨some 8, .len (.t 7), none⟩, ⟨some 9, .bin .gtr (.t 8) (.c (.int .i64 40)), none⟩])
  (.cond (.t 9) (.seq (.ops false [⟨some 10, .callP 6 [], none⟩, ⟨some 2, .mv (.t 10), none⟩])
   (.ret))
   (.skip)))
  (.seq (.ops false [⟨some 11, .callH 22 [], none⟩, ⟨some 12, .build [.nil, .bool false] [], none⟩, ⟨some 13, .box (.t 12), none⟩, ⟨some 3, .mv (.t 11), none⟩, ⟨some 4, .mv (.t 13), none⟩])
  (.gown 3 0 1 (.gown 4 0 1 (.seq (.seq (.ops false [⟨some 5, .mv (.c (.int .i64 0)), none⟩])
  (.block 0 (.loop [0, 3, 4, 5] (some 4) (.seq (.seq (.ops false [⟨some 14, .mv (.t 5), none⟩, ⟨some 15, .mv (.t 0), none⟩, ⟨some 16, .len (.t 15), none⟩, ⟨some 17, .bin .lss (.t 14) (.t 16), none⟩])
    (.cond (.t 17) (.skip)
     (.exit 0)))
    (.seq (.block 1 (.seq (.ops false [⟨some 20, .mv (.t 0), none⟩, ⟨some 21, .mv (.t 5), none⟩, ⟨some 22, .iaddr 5 (.t 20) (.t 21), none⟩, ⟨some 23, .load (some 5) (.t 22), none⟩, ⟨some 6, .alloc [.int .i64 0, .int .i64 0, .int .i64 0, .int .i64 0, .str []], none⟩, ⟨none, .store 5 (.t 6) (.t 23), none⟩])
     (.seq (.seq (.ops false [⟨some 24, .faddr 4 (.t 6), none⟩, ⟨some 25, .load none (.t 24), none⟩, ⟨some 26, .lenS (.t 25), none⟩, ⟨some 27, .bin .gtr (.t 26) (.c (.int .i64 70000)), none⟩, ⟨some 28, .mv (.t 27), none⟩, ⟨some 29, .faddr 4 (.t 6), some (28, false)⟩, ⟨some 30, .load none (.t 29), some (28, false)⟩, ⟨some 31, .lenS (.t 30), some (28, false)⟩, ⟨some 32, .bin .gtr (.t 31) (.c (.int .i64 1000)), some (28, false)⟩, ⟨some 33, .mv (.t 32), some (28, false)⟩, ⟨some 34, .mv (.t 5), some (33, true)⟩, ⟨some 35, .bin .gtr (.t 34) (.c (.int .i64 2)), some (33, true)⟩, ⟨some 36, .pick (.t 33) (.t 35) (.c (.bool false)), some (28, false)⟩, ⟨some 37, .pick (.t 28) (.c (.bool true)) (.t 36), none⟩])
     (.cond (.t 37) (.seq (.ops false [⟨some 38, .callP 6 [], none⟩, ⟨some 2, .mv (.t 38), none⟩])
      (.ret))
      (.skip)))
     (.seq (.seq (.ops false [⟨some 39, .faddr 0 (.t 6), none⟩, ⟨some 40, .load none (.t 39), none⟩])
     (.block 2 (.seq (.ops false [⟨some 52, .bin .eql (.t 40) (.c (.int .i64 0)), none⟩, ⟨some 51, .mv (.t 52), none⟩])
      (.cond (.t 51) (.seq (.ops false [⟨some 53, .mv (.t 3), none⟩, ⟨some 54, .faddr 1 (.t 6), none⟩, ⟨some 55, .load none (.t 54), none⟩, ⟨some 56, .faddr 2 (.t 6), none⟩, ⟨some 57, .load none (.t 56), none⟩, ⟨some 58, .callH 23 [(.t 53), (.t 55), (.t 57)], none⟩])
       (.ops false [⟨some 59, .mv (.t 4), none⟩, ⟨some 60, .faddr 1 (.t 6), none⟩, ⟨some 61, .load none (.t 60), none⟩, ⟨some 62, .faddr 2 (.t 6), none⟩, ⟨some 63, .load none (.t 62), none⟩, ⟨some 64, .callH 24 [(.t 59), (.t 61), (.t 63)], none⟩]))
       (.seq (.ops false [⟨some 66, .bin .eql (.t 40) (.c (.int .i64 1)), none⟩, ⟨some 65, .mv (.t 66), none⟩])
       (.cond (.t 65) (.seq (.ops false [⟨some 67, .mv (.t 3), none⟩, ⟨some 68, .faddr 3 (.t 6), none⟩, ⟨some 69, .load none (.t 68), none⟩, ⟨some 70, .callH 25 [(.t 67), (.t 69)], none⟩])
        (.ops false [⟨some 71, .mv (.t 4), none⟩, ⟨some 72, .faddr 3 (.t 6), none⟩, ⟨some 73, .load none (.t 72), none⟩, ⟨some 74, .callH 26 [(.t 71), (.t 73)], none⟩]))
        (.seq (.ops false [⟨some 76, .bin .eql (.t 40) (.c (.int .i64 2)), none⟩, ⟨some 75, .mv (.t 76), none⟩])
        (.cond (.t 75) (.seq (.ops false [⟨some 77, .mv (.t 3), none⟩, ⟨some 78, .faddr 4 (.t 6), none⟩, ⟨some 79, .load none (.t 78), none⟩, ⟨some 80, .callH 27 [(.t 77), (.t 79)], none⟩])
         (.ops false [⟨some 81, .mv (.t 4), none⟩, ⟨some 82, .faddr 4 (.t 6), none⟩, ⟨some 83, .load none (.t 82), none⟩, ⟨some 84, .callH 28 [(.t 81), (.t 83)], none⟩]))
         (.seq (.ops false [⟨some 41, .mv (.t 3), none⟩, ⟨some 42, .faddr 4 (.t 6), none⟩, ⟨some 43, .load none (.t 42), none⟩, ⟨some 44, .s2b (.t 43), none⟩, ⟨some 45, .callH 29 [(.t 41), (.t 44)], none⟩])
         (.ops false [⟨some 46, .mv (.t 4), none⟩, ⟨some 47, .faddr 4 (.t 6), none⟩, ⟨some 48, .load none (.t 47), none⟩, ⟨some 49, .s2b (.t 48), none⟩, ⟨some 50, .callH 30 [(.t 46), (.t 49)], none⟩]))))))))))
     (.cut [0, 3, 4, 5] (some 4) c_norialaw03_ReaderWrites_1)))))
    (.ops false [⟨some 18, .mv (.t 5), none⟩, ⟨some 19, .bin .add (.t 18) (.c (.int .i64 1)), none⟩, ⟨some 5, .mv (.t 19), none⟩]))))))
  (.seq (.ops false [⟨some 102, .callP 6 [], none⟩, ⟨some 2, .mv (.t 102), none⟩])
  (.ret))))))),
  [.t 2]⟩

def c_norialaw03_ReaderBack_1 : DCode := (.seq (.ops false [⟨some 6, .mv (.c (.nilp)), none⟩])
  (.seq (.ops false [⟨some 7, .mv (.c (.nilp)), none⟩])
  (.seq (.ops false [⟨some 59, .mv (.t 7), none⟩, ⟨some 60, .callH 23 [(.t 59), (.c (.int .i64 1)), (.c (.int .i64 1))], none⟩])
  (.seq (.seq (.ops false [⟨some 61, .mv (.t 6), none⟩, ⟨some 62, .callH 18 [(.t 61)], none⟩, ⟨some 63, .mv (.t 62), none⟩, ⟨some 64, .mv (.t 6), some (63, false)⟩, ⟨some 65, .callH 9 [(.t 64), (.c (.int .i64 1))], some (63, false)⟩, ⟨some 66, .bin .neq (.t 65) (.c (.int .i64 0)), some (63, false)⟩, ⟨some 67, .pick (.t 63) (.c (.bool true)) (.t 66), none⟩, ⟨some 68, .mv (.t 67), none⟩, ⟨some 69, .mv (.t 6), some (68, false)⟩, ⟨some 70, .callH 20 [(.t 69)], some (68, false)⟩, ⟨some 71, .pick (.t 68) (.c (.bool true)) (.t 70), none⟩, ⟨some 72, .mv (.t 71), none⟩, ⟨some 73, .mv (.t 6), some (72, false)⟩, ⟨some 74, .callH 13 [(.t 73)], some (72, false)⟩, ⟨some 75, .bin .neq (.t 74) (.c (.str [])), some (72, false)⟩, ⟨some 76, .pick (.t 72) (.c (.bool true)) (.t 75), none⟩, ⟨some 77, .mv (.t 76), none⟩, ⟨some 78, .mv (.t 7), some (77, false)⟩, ⟨some 79, .callH 31 [(.t 78)], some (77, false)⟩, ⟨some 80, .pick (.t 77) (.c (.bool true)) (.t 79), none⟩, ⟨some 81, .mv (.t 80), none⟩, ⟨some 82, .mv (.t 7), some (81, false)⟩, ⟨some 83, .callH 32 [(.t 82)], some (81, false)⟩, ⟨some 84, .len (.t 83), some (81, false)⟩, ⟨some 85, .bin .neq (.t 84) (.c (.int .i64 0)), some (81, false)⟩, ⟨some 86, .pick (.t 81) (.c (.bool true)) (.t 85), none⟩, ⟨some 87, .mv (.t 86), none⟩, ⟨some 88, .build [.nil, .bool false, .int .i64 0] [], some (87, false)⟩, ⟨some 89, .box (.t 88), some (87, false)⟩, ⟨some 90, .callH 18 [(.t 89)], some (87, false)⟩, ⟨some 91, .pick (.t 87) (.c (.bool true)) (.t 90), none⟩, ⟨some 92, .mv (.t 91), none⟩, ⟨some 93, .build [.nil, .bool false] [], some (92, false)⟩, ⟨some 94, .box (.t 93), some (92, false)⟩, ⟨some 95, .callH 31 [(.t 94)], some (92, false)⟩, ⟨some 96, .pick (.t 92) (.c (.bool true)) (.t 95), none⟩])
  (.cond (.t 96) (.seq (.ops false [⟨some 2, .mv (.c (.bool false)), none⟩])
   (.ret))
   (.skip)))
  (.seq (.seq (.ops false [⟨some 97, .mv (.t 3), none⟩, ⟨some 98, .callH 31 [(.t 97)], none⟩, ⟨some 99, .un .not (.t 98), none⟩])
  (.cond (.t 99) (.seq (.ops false [⟨some 100, .mv (.t 3), none⟩, ⟨some 101, .callH 32 [(.t 100)], none⟩, ⟨some 102, .len (.t 101), none⟩, ⟨some 103, .bin .eql (.t 102) (.c (.int .i64 0)), none⟩, ⟨some 104, .mv (.t 103), none⟩, ⟨some 105, .callP 6 [], some (104, true)⟩, ⟨some 106, .pick (.t 104) (.t 105) (.c (.bool false)), none⟩, ⟨some 2, .mv (.t 106), none⟩])
   (.ret))
   (.skip)))
  (.seq (.ops false [⟨some 107, .mv (.t 3), none⟩, ⟨some 108, .callH 32 [(.t 107)], none⟩, ⟨some 109, .callH 7 [(.t 108)], none⟩, ⟨some 8, .mv (.t 109), none⟩])
  (.seq (.seq (.ops false [⟨some 9, .mv (.c (.int .i64 0)), none⟩])
  (.block 3 (.loop [0, 3, 8, 9] (some 6) (.seq (.seq (.ops false [⟨some 110, .mv (.t 9), none⟩, ⟨some 111, .mv (.t 0), none⟩, ⟨some 112, .len (.t 111), none⟩, ⟨some 113, .bin .lss (.t 110) (.t 112), none⟩])
    (.cond (.t 113) (.skip)
     (.exit 3)))
    (.seq (.block 4 (.seq (.ops false [⟨some 116, .mv (.t 0), none⟩, ⟨some 117, .mv (.t 9), none⟩, ⟨some 118, .iaddr 5 (.t 116) (.t 117), none⟩, ⟨some 119, .load (some 5) (.t 118), none⟩, ⟨some 10, .alloc [.int .i64 0, .int .i64 0, .int .i64 0, .int .i64 0, .str []], none⟩, ⟨none, .store 5 (.t 10) (.t 119), none⟩])
     (.seq (.ops false [⟨some 11, .mv (.c (.bool true)), none⟩])
     (.seq (.seq (.ops false [⟨some 120, .faddr 0 (.t 10), none⟩, ⟨some 121, .load none (.t 120), none⟩])
     (.block 5 (.seq (.ops false [⟨some 129, .bin .eql (.t 121) (.c (.int .i64 0)), none⟩, ⟨some 128, .mv (.t 129), none⟩])
      (.cond (.t 128) (.opsS [(10, 130), (134, 130), (10, 8), (134, 8)] [(0, ⟨some 130, .mv (.t 8), none⟩), (1, ⟨some 131, .faddr 2 (.t 10), none⟩), (2, ⟨some 132, .load none (.t 131), none⟩), (4, ⟨some 134, .faddr 1 (.t 10), none⟩), (5, ⟨some 135, .load none (.t 134), none⟩), (3, ⟨some 133, .to 130 (.callH 9 [(.t 130), (.t 132)]), none⟩), (6, ⟨some 136, .bin .eql (.t 133) (.t 135), none⟩), (7, ⟨some 11, .mv (.t 136), none⟩)])
       (.seq (.ops false [⟨some 138, .bin .eql (.t 121) (.c (.int .i64 1)), none⟩, ⟨some 137, .mv (.t 138), none⟩])
       (.cond (.t 137) (.opsS [(10, 139), (141, 139), (10, 8), (141, 8)] [(0, ⟨some 139, .mv (.t 8), none⟩), (2, ⟨some 141, .faddr 3 (.t 10), none⟩), (3, ⟨some 142, .load none (.t 141), none⟩), (1, ⟨some 140, .to 139 (.callH 11 [(.t 139)]), none⟩), (4, ⟨some 143, .bin .eql (.t 140) (.t 142), none⟩), (5, ⟨some 11, .mv (.t 143), none⟩)])
        (.seq (.ops false [⟨some 145, .bin .eql (.t 121) (.c (.int .i64 2)), none⟩, ⟨some 144, .mv (.t 145), none⟩])
        (.cond (.t 144) (.opsS [(10, 146), (148, 146), (10, 8), (148, 8)] [(0, ⟨some 146, .mv (.t 8), none⟩), (2, ⟨some 148, .faddr 4 (.t 10), none⟩), (3, ⟨some 149, .load none (.t 148), none⟩), (1, ⟨some 147, .to 146 (.callH 13 [(.t 146)]), none⟩), (4, ⟨some 150, .bin .eql (.t 147) (.t 149), none⟩), (5, ⟨some 11, .mv (.t 150), none⟩)])
         (.opsS [(10, 122), (125, 122), (10, 8), (125, 8)] [(0, ⟨some 122, .mv (.t 8), none⟩), (3, ⟨some 125, .faddr 4 (.t 10), none⟩), (4, ⟨some 126, .load none (.t 125), none⟩), (1, ⟨some 123, .to 122 (.callH 16 [(.t 122)]), none⟩), (2, ⟨some 124, .b2s (.t 123), none⟩), (5, ⟨some 127, .bin .eql (.t 124) (.t 126), none⟩), (6, ⟨some 11, .mv (.t 127), none⟩)])))))))))
     (.seq (.ops false [⟨some 151, .mv (.t 11), none⟩, ⟨some 152, .un .not (.t 151), none⟩, ⟨some 153, .mv (.t 152), none⟩, ⟨some 154, .mv (.t 8), some (153, false)⟩, ⟨some 155, .callH 18 [(.t 154)], some (153, false)⟩, ⟨some 156, .un .not (.t 155), some (153, false)⟩, ⟨some 157, .pick (.t 153) (.c (.bool true)) (.t 156), none⟩])
     (.cond (.t 157) (.seq (.ops false [⟨some 2, .mv (.c (.bool false)), none⟩])
      (.ret))
      (.skip)))))))
    (.ops false [⟨some 114, .mv (.t 9), none⟩, ⟨some 115, .bin .add (.t 114) (.c (.int .i64 1)), none⟩, ⟨some 9, .mv (.t 115), none⟩]))))))
  (.seq (.ops false [⟨some 158, .mv (.t 8), none⟩, ⟨some 159, .callH 20 [(.t 158)], none⟩, ⟨some 160, .un .not (.t 159), none⟩, ⟨some 161, .mv (.t 160), none⟩, ⟨some 162, .mv (.t 8), some (161, true)⟩, ⟨some 163, .callH 19 [(.t 162)], some (161, true)⟩, ⟨some 164, .mv (.t 3), some (161, true)⟩, ⟨some 165, .callH 32 [(.t 164)], some (161, true)⟩, ⟨some 166, .len (.t 165), some (161, true)⟩, ⟨some 167, .bin .eql (.t 163) (.t 166), some (161, true)⟩, ⟨some 168, .pick (.t 161) (.t 167) (.c (.bool false)), none⟩, ⟨some 169, .mv (.t 168), none⟩, ⟨some 170, .callP 6 [], some (169, true)⟩, ⟨some 171, .pick (.t 169) (.t 170) (.c (.bool false)), none⟩, ⟨some 2, .mv (.t 171), none⟩])
  (.ret)))))))))

/- noria/norialaw03.ReaderBack -/
def d_norialaw03_ReaderBack : DFun := ⟨
  .seq (.ops false [⟨some 2, .mv (.c (.bool false)), none⟩])
  (.seq (.seq (.ops false [⟨some 12, .mv (.t 0), none⟩, ⟨some 13, .len (.t 12), none⟩, ⟨some 14, .bin .gtr (.t 13) (.c (.int .i64 40)), none⟩])
  (.cond (.t 14) (.seq (.ops false [⟨some 15, .callP 6 [], none⟩, ⟨some 2, .mv (.t 15), none⟩])
   (.ret))
   (.skip)))
  (.seq (.ops false [⟨some 16, .callH 22 [], none⟩, ⟨some 3, .mv (.t 16), none⟩])
  (.gown 3 0 1 (.seq (.seq (.ops false [⟨some 4, .mv (.c (.int .i64 0)), none⟩])
  (.block 0 (.loop [0, 3, 4] (some 2) (.seq (.seq (.ops false [⟨some 17, .mv (.t 4), none⟩, ⟨some 18, .mv (.t 0), none⟩, ⟨some 19, .len (.t 18), none⟩, ⟨some 20, .bin .lss (.t 17) (.t 19), none⟩])
    (.cond (.t 20) (.skip)
     (.exit 0)))
    (.seq (.block 1 (.seq (.ops false [⟨some 23, .mv (.t 0), none⟩, ⟨some 24, .mv (.t 4), none⟩, ⟨some 25, .iaddr 5 (.t 23) (.t 24), none⟩, ⟨some 26, .load (some 5) (.t 25), none⟩, ⟨some 5, .alloc [.int .i64 0, .int .i64 0, .int .i64 0, .int .i64 0, .str []], none⟩, ⟨none, .store 5 (.t 5) (.t 26), none⟩])
     (.seq (.seq (.ops false [⟨some 27, .faddr 4 (.t 5), none⟩, ⟨some 28, .load none (.t 27), none⟩, ⟨some 29, .lenS (.t 28), none⟩, ⟨some 30, .bin .gtr (.t 29) (.c (.int .i64 1000)), none⟩])
     (.cond (.t 30) (.seq (.ops false [⟨some 31, .callP 6 [], none⟩, ⟨some 2, .mv (.t 31), none⟩])
      (.ret))
      (.skip)))
     (.seq (.ops false [⟨some 32, .faddr 0 (.t 5), none⟩, ⟨some 33, .load none (.t 32), none⟩])
     (.block 2 (.seq (.ops false [⟨some 40, .bin .eql (.t 33) (.c (.int .i64 0)), none⟩, ⟨some 39, .mv (.t 40), none⟩])
      (.cond (.t 39) (.ops false [⟨some 41, .mv (.t 3), none⟩, ⟨some 42, .faddr 1 (.t 5), none⟩, ⟨some 43, .load none (.t 42), none⟩, ⟨some 44, .faddr 2 (.t 5), none⟩, ⟨some 45, .load none (.t 44), none⟩, ⟨some 46, .callH 23 [(.t 41), (.t 43), (.t 45)], none⟩])
       (.seq (.ops false [⟨some 48, .bin .eql (.t 33) (.c (.int .i64 1)), none⟩, ⟨some 47, .mv (.t 48), none⟩])
       (.cond (.t 47) (.ops false [⟨some 49, .mv (.t 3), none⟩, ⟨some 50, .faddr 3 (.t 5), none⟩, ⟨some 51, .load none (.t 50), none⟩, ⟨some 52, .callH 25 [(.t 49), (.t 51)], none⟩])
        (.seq (.ops false [⟨some 54, .bin .eql (.t 33) (.c (.int .i64 2)), none⟩, ⟨some 53, .mv (.t 54), none⟩])
        (.cond (.t 53) (.ops false [⟨some 55, .mv (.t 3), none⟩, ⟨some 56, .faddr 4 (.t 5), none⟩, ⟨some 57, .load none (.t 56), none⟩, ⟨some 58, .callH 27 [(.t 55), (.t 57)], none⟩])
         (.ops false [⟨some 34, .mv (.t 3), none⟩, ⟨some 35, .faddr 4 (.t 5), none⟩, ⟨some 36, .load none (.t 35), none⟩, ⟨some 37, .s2b (.t 36), none⟩, ⟨some 38, .callH 29 [(.t 34), (.t 37)], none⟩]))))))))))))
    (.ops false [⟨some 21, .mv (.t 4), none⟩, ⟨some 22, .bin .add (.t 21) (.c (.int .i64 1)), none⟩, ⟨some 4, .mv (.t 22), none⟩]))))))
  (.cut [0, 3] (some 2) c_norialaw03_ReaderBack_1))))),
  [.t 2]⟩

/- noria/norialaw03.live -/
def d_norialaw03_live : DFun := ⟨
  .seq (.ops false [⟨some 0, .mv (.c (.bool false)), none⟩])
  (.seq (.ops false [⟨some 2, .bslice true [.int .u8 0] [(some (.c (.int .u8 0))), (some (.c (.int .u8 2))), (some (.c (.int .u8 97))), (some (.c (.int .u8 98))), (some (.c (.int .u8 2))), (some (.c (.int .u8 255))), (some (.c (.int .u8 127))), (some (.c (.int .u8 1)))], none⟩, ⟨some 3, .callH 7 [(.t 2)], none⟩, ⟨some 1, .mv (.t 3), none⟩])
  (.seq (.ops false [⟨some 4, .mv (.t 1), none⟩, ⟨some 5, .callH 13 [(.t 4)], none⟩, ⟨some 6, .bin .eql (.t 5) (.c (.str [97, 98])), none⟩, ⟨some 7, .mv (.t 6), none⟩, ⟨some 8, .mv (.t 1), some (7, true)⟩, ⟨some 9, .callH 11 [(.t 8)], some (7, true)⟩, ⟨some 10, .bin .eql (.t 9) (.c (.int .i64 (-129))), some (7, true)⟩, ⟨some 11, .pick (.t 7) (.t 10) (.c (.bool false)), none⟩, ⟨some 12, .mv (.t 11), none⟩, ⟨some 13, .mv (.t 1), some (12, true)⟩, ⟨some 14, .callH 19 [(.t 13)], some (12, true)⟩, ⟨some 15, .bin .eql (.t 14) (.c (.int .i64 7)), some (12, true)⟩, ⟨some 16, .pick (.t 12) (.t 15) (.c (.bool false)), none⟩, ⟨some 17, .mv (.t 16), none⟩, ⟨some 18, .mv (.t 1), some (17, true)⟩, ⟨some 19, .callH 20 [(.t 18)], some (17, true)⟩, ⟨some 20, .pick (.t 17) (.t 19) (.c (.bool false)), none⟩, ⟨some 21, .mv (.t 20), none⟩, ⟨some 22, .mv (.t 1), some (21, true)⟩, ⟨some 23, .callH 9 [(.t 22), (.c (.int .i64 2))], some (21, true)⟩, ⟨some 24, .bin .eql (.t 23) (.c (.int .i64 0)), some (21, true)⟩, ⟨some 25, .pick (.t 21) (.t 24) (.c (.bool false)), none⟩, ⟨some 26, .mv (.t 25), none⟩, ⟨some 27, .mv (.t 1), some (26, true)⟩, ⟨some 28, .callH 18 [(.t 27)], some (26, true)⟩, ⟨some 29, .un .not (.t 28), some (26, true)⟩, ⟨some 30, .pick (.t 26) (.t 29) (.c (.bool false)), none⟩, ⟨some 31, .mv (.t 30), none⟩, ⟨some 32, .mv (.t 1), some (31, true)⟩, ⟨some 33, .callH 19 [(.t 32)], some (31, true)⟩, ⟨some 34, .bin .eql (.t 33) (.c (.int .i64 0)), some (31, true)⟩, ⟨some 35, .pick (.t 31) (.t 34) (.c (.bool false)), none⟩, ⟨some 0, .mv (.t 35), none⟩])
  (.ret))),
  [.t 0]⟩

/- noria/reader.From -/
def d_reader_From : DFun := ⟨
  .seq (.ops false [⟨some 2, .mv (.c (.nilp)), none⟩])
  (.seq (.ops false [⟨some 3, .mv (.t 0), none⟩, ⟨some 4, .callP 33 [(.t 3)], none⟩, ⟨some 5, .build [.nil, .bool false] [(0, 1, (.t 4)), (1, 1, (.c (.bool true)))], none⟩, ⟨some 6, .build [.nil, .bool false, .int .i64 0] [(0, 2, (.t 5))], none⟩, ⟨some 7, .box (.t 6), none⟩, ⟨some 2, .mv (.t 7), none⟩])
  (.ret)),
  [.t 2]⟩

/- noria/noriaref03.From -/
def d_noriaref03_From : DFun := ⟨
  .seq (.ops false [⟨some 2, .mv (.c (.nilp)), none⟩])
  (.seq (.ops false [⟨some 3, .mv (.t 0), none⟩, ⟨some 4, .build [.nil, .int .i64 0, .bool false] [(0, 1, (.t 3))], none⟩, ⟨some 5, .box (.t 4), none⟩, ⟨some 2, .mv (.t 5), none⟩])
  (.ret)),
  [.t 2]⟩

/- (*noria/reader.Reader).Num -/
def d_reader_Reader_Num : DFun := ⟨
  .seq (.ops false [⟨some 4, .mv (.c (.int .i64 0)), none⟩])
  (.seq (.seq (.ops false [⟨some 5, .mv (.t 1), none⟩, ⟨some 6, .bin .lss (.t 5) (.c (.int .i64 1)), none⟩, ⟨some 7, .mv (.t 6), none⟩, ⟨some 8, .mv (.t 1), some (7, false)⟩, ⟨some 9, .bin .gtr (.t 8) (.c (.int .i64 4)), some (7, false)⟩, ⟨some 10, .pick (.t 7) (.c (.bool true)) (.t 9), none⟩])
  (.cond (.t 10) (.ops false [⟨some 1, .mv (.c (.int .i64 (-1))), none⟩])
   (.skip)))
  (.seq (.ops false [⟨some 11, .mv (.t 0), none⟩, ⟨some 12, .mv (.t 1), none⟩, ⟨some 13, .callH 35 [(.t 11), (.t 12)], none⟩, ⟨some 14, .callP 34 [(.t 13)], none⟩, ⟨some 15, .conv .i64 (.t 14), none⟩, ⟨some 4, .mv (.t 15), none⟩])
  (.ret))),
  [.t 4]⟩

/- (*noria/noriaref03.R).Num -/
def d_noriaref03_R_Num : DFun := ⟨
  .seq (.ops false [⟨some 4, .mv (.c (.int .i64 0)), none⟩])
  (.seq (.seq (.ops false [⟨some 5, .mv (.t 1), none⟩, ⟨some 6, .bin .lss (.t 5) (.c (.int .i64 1)), none⟩, ⟨some 7, .mv (.t 6), none⟩, ⟨some 8, .mv (.t 1), some (7, false)⟩, ⟨some 9, .bin .gtr (.t 8) (.c (.int .i64 4)), some (7, false)⟩, ⟨some 10, .pick (.t 7) (.c (.bool true)) (.t 9), none⟩])
  (.cond (.t 10) (.ops false [⟨some 1, .mv (.c (.int .i64 (-1))), none⟩])
   (.skip)))
  (.seq (.ops false [⟨some 11, .mv (.t 0), none⟩, ⟨some 12, .mv (.t 1), none⟩, ⟨some 13, .callH 37 [(.t 11), (.t 12)], none⟩, ⟨some 14, .callP 36 [(.t 13)], none⟩, ⟨some 15, .conv .i64 (.t 14), none⟩, ⟨some 4, .mv (.t 15), none⟩])
  (.ret))),
  [.t 4]⟩

/- (*noria/reader.Reader).Int -/
def d_reader_Reader_Int : DFun := ⟨
  .seq (.ops false [⟨some 2, .mv (.c (.int .i64 0)), none⟩])
  (.seq (.ops false [⟨some 6, .mv (.t 0), none⟩, ⟨some 7, .mv (.t 0), none⟩, ⟨some 8, .callH 9 [(.t 7), (.c (.int .i64 1))], none⟩, ⟨some 9, .callH 35 [(.t 6), (.t 8)], none⟩, ⟨some 3, .mv (.t 9), none⟩])
  (.seq (.seq (.ops false [⟨some 10, .mv (.t 0), none⟩, ⟨some 11, .callH 18 [(.t 10)], none⟩, ⟨some 12, .un .not (.t 11), none⟩])
  (.cond (.t 12) (.seq (.ops false [⟨some 2, .mv (.c (.int .i64 0)), none⟩])
   (.ret))
   (.skip)))
  (.seq (.ops false [⟨some 14, .mv (.t 3), none⟩, ⟨some 15, .callP 38 [(.t 14)], none⟩, ⟨some 13, .mv (.t 15), none⟩, ⟨some 16, .extract 0 (.t 13), none⟩, ⟨some 17, .extract 1 (.t 13), none⟩, ⟨some 4, .mv (.t 16), none⟩, ⟨some 5, .mv (.t 17), none⟩])
  (.seq (.seq (.ops false [⟨some 18, .mv (.t 5), none⟩, ⟨some 19, .un .not (.t 18), none⟩])
  (.cond (.t 19) (.ops false [⟨some 20, .mv (.t 0), none⟩, ⟨some 21, .callH 35 [(.t 20), (.c (.int .i64 (-1)))], none⟩])
   (.skip)))
  (.seq (.ops false [⟨some 22, .mv (.t 4), none⟩, ⟨some 2, .mv (.t 22), none⟩])
  (.ret)))))),
  [.t 2]⟩

/- (*noria/noriaref03.R).Int -/
def d_noriaref03_R_Int : DFun := ⟨
  .seq (.ops false [⟨some 2, .mv (.c (.int .i64 0)), none⟩])
  (.seq (.ops false [⟨some 7, .mv (.t 0), none⟩, ⟨some 8, .callH 10 [(.t 7), (.c (.int .i64 1))], none⟩, ⟨some 3, .mv (.t 8), none⟩])
  (.seq (.seq (.ops false [⟨some 9, .mv (.t 0), none⟩, ⟨some 10, .nilck (.t 9), none⟩, ⟨some 11, .faddr 2 (.t 10), none⟩, ⟨some 12, .load none (.t 11), none⟩])
  (.cond (.t 12) (.seq (.ops false [⟨some 2, .mv (.c (.int .i64 0)), none⟩])
   (.ret))
   (.skip)))
  (.seq (.ops false [⟨some 13, .mv (.t 0), none⟩, ⟨some 14, .mv (.t 3), none⟩, ⟨some 15, .callH 37 [(.t 13), (.t 14)], none⟩, ⟨some 4, .mv (.t 15), none⟩])
  (.seq (.seq (.ops false [⟨some 16, .mv (.t 0), none⟩, ⟨some 17, .nilck (.t 16), none⟩, ⟨some 18, .faddr 2 (.t 17), none⟩, ⟨some 19, .load none (.t 18), none⟩])
  (.cond (.t 19) (.seq (.ops false [⟨some 2, .mv (.c (.int .i64 0)), none⟩])
   (.ret))
   (.skip)))
  (.seq (.ops false [⟨some 21, .mv (.t 4), none⟩, ⟨some 22, .callP 39 [(.t 21)], none⟩, ⟨some 20, .mv (.t 22), none⟩, ⟨some 23, .extract 0 (.t 20), none⟩, ⟨some 24, .extract 1 (.t 20), none⟩, ⟨some 5, .mv (.t 23), none⟩, ⟨some 6, .mv (.t 24), none⟩])
  (.seq (.seq (.ops false [⟨some 25, .mv (.t 6), none⟩, ⟨some 26, .un .not (.t 25), none⟩])
  (.cond (.t 26) (.seq (.ops false [⟨some 27, .mv (.t 0), none⟩, ⟨some 28, .nilck (.t 27), none⟩, ⟨some 29, .faddr 2 (.t 28), none⟩, ⟨none, .store 1 (.t 29) (.c (.bool true)), none⟩])
   (.ops false [⟨some 30, .mv (.t 0), none⟩, ⟨some 31, .nilck (.t 30), none⟩, ⟨some 32, .faddr 1 (.t 31), none⟩, ⟨none, .store 1 (.t 32) (.c (.int .i64 0)), none⟩]))
   (.skip)))
  (.seq (.ops false [⟨some 33, .mv (.t 5), none⟩, ⟨some 2, .mv (.t 33), none⟩])
  (.ret)))))))),
  [.t 2]⟩

/- (*noria/reader.Reader).Text -/
def d_reader_Reader_Text : DFun := ⟨
  .seq (.ops false [⟨some 2, .mv (.c (.str [])), none⟩])
  (.seq (.ops false [⟨some 3, .mv (.t 0), none⟩, ⟨some 4, .mv (.t 0), none⟩, ⟨some 5, .callH 9 [(.t 4), (.c (.int .i64 2))], none⟩, ⟨some 6, .callH 35 [(.t 3), (.t 5)], none⟩, ⟨some 7, .b2s (.t 6), none⟩, ⟨some 2, .mv (.t 7), none⟩])
  (.ret)),
  [.t 2]⟩

/- (*noria/noriaref03.R).Text -/
def d_noriaref03_R_Text : DFun := ⟨
  .seq (.ops false [⟨some 2, .mv (.c (.str [])), none⟩])
  (.seq (.ops false [⟨some 4, .mv (.t 0), none⟩, ⟨some 5, .callH 10 [(.t 4), (.c (.int .i64 2))], none⟩, ⟨some 3, .mv (.t 5), none⟩])
  (.seq (.seq (.ops false [⟨some 6, .mv (.t 0), none⟩, ⟨some 7, .nilck (.t 6), none⟩, ⟨some 8, .faddr 2 (.t 7), none⟩, ⟨some 9, .load none (.t 8), none⟩])
  (.cond (.t 9) (.seq (.ops false [⟨some 2, .mv (.c (.str [])), none⟩])
   (.ret))
   (.skip)))
  (.seq (.ops false [⟨some 10, .mv (.t 0), none⟩, ⟨some 11, .mv (.t 3), none⟩, ⟨some 12, .callH 37 [(.t 10), (.t 11)], none⟩, ⟨some 13, .b2s (.t 12), none⟩, ⟨some 2, .mv (.t 13), none⟩])
  (.ret)))),
  [.t 2]⟩

/- noria/noriaref01.Same -/
def d_noriaref01_Same : DFun := ⟨
  .seq (.ops false [⟨some 4, .mv (.c (.bool false)), none⟩])
  (.seq (.seq (.ops false [⟨some 6, .mv (.t 0), none⟩, ⟨some 7, .len (.t 6), none⟩, ⟨some 8, .mv (.t 1), none⟩, ⟨some 9, .len (.t 8), none⟩, ⟨some 10, .bin .neq (.t 7) (.t 9), none⟩])
  (.cond (.t 10) (.seq (.ops false [⟨some 4, .mv (.c (.bool false)), none⟩])
   (.ret))
   (.skip)))
  (.seq (.seq (.ops false [⟨some 5, .mv (.c (.int .i64 0)), none⟩])
  (.block 0 (.loop [0, 1, 5] (some 0) (.seq (.seq (.ops false [⟨some 11, .mv (.t 5), none⟩, ⟨some 12, .mv (.t 0), none⟩, ⟨some 13, .len (.t 12), none⟩, ⟨some 14, .bin .lss (.t 11) (.t 13), none⟩])
    (.cond (.t 14) (.skip)
     (.exit 0)))
    (.seq (.block 1 (.seq (.ops true [⟨some 17, .mv (.t 0), none⟩, ⟨some 18, .mv (.t 5), none⟩, ⟨some 19, .iaddr 1 (.t 17) (.t 18), none⟩, ⟨some 20, .load none (.t 19), none⟩, ⟨some 21, .mv (.t 1), none⟩, ⟨some 22, .mv (.t 5), none⟩, ⟨some 23, .iaddr 1 (.t 21) (.t 22), none⟩, ⟨some 24, .load none (.t 23), none⟩, ⟨some 25, .bin .neq (.t 20) (.t 24), none⟩])
     (.cond (.t 25) (.seq (.ops false [⟨some 4, .mv (.c (.bool false)), none⟩])
      (.ret))
      (.skip))))
    (.ops false [⟨some 15, .mv (.t 5), none⟩, ⟨some 16, .bin .add (.t 15) (.c (.int .i64 1)), none⟩, ⟨some 5, .mv (.t 16), none⟩]))))))
  (.seq (.ops false [⟨some 4, .mv (.c (.bool true)), none⟩])
  (.ret)))),
  [.t 4]⟩

/- (*noria/reader.Reader).Part -/
def d_reader_Reader_Part : DFun := ⟨
  .seq (.ops false [⟨some 2, .mv (.c (.nil)), none⟩])
  (.seq (.ops false [⟨some 3, .mv (.t 0), none⟩, ⟨some 4, .mv (.t 0), none⟩, ⟨some 5, .callH 9 [(.t 4), (.c (.int .i64 4))], none⟩, ⟨some 6, .callH 35 [(.t 3), (.t 5)], none⟩, ⟨some 7, .callP 33 [(.t 6)], none⟩, ⟨some 2, .mv (.t 7), none⟩])
  (.ret)),
  [.t 2]⟩

/- (*noria/noriaref03.R).Part -/
def d_noriaref03_R_Part : DFun := ⟨
  .seq (.ops false [⟨some 2, .mv (.c (.nil)), none⟩])
  (.seq (.ops false [⟨some 4, .mv (.t 0), none⟩, ⟨some 5, .callH 10 [(.t 4), (.c (.int .i64 4))], none⟩, ⟨some 3, .mv (.t 5), none⟩])
  (.seq (.seq (.ops false [⟨some 6, .mv (.t 0), none⟩, ⟨some 7, .nilck (.t 6), none⟩, ⟨some 8, .faddr 2 (.t 7), none⟩, ⟨some 9, .load none (.t 8), none⟩])
  (.cond (.t 9) (.seq (.ops false [⟨some 2, .mv (.c (.nil)), none⟩])
   (.ret))
   (.skip)))
  (.seq (.ops false [⟨some 10, .mv (.t 0), none⟩, ⟨some 11, .mv (.t 3), none⟩, ⟨some 12, .callH 37 [(.t 10), (.t 11)], none⟩, ⟨some 2, .mv (.t 12), none⟩])
  (.ret)))),
  [.t 2]⟩

/- (*noria/reader.Reader).Ok -/
def d_reader_Reader_Ok : DFun := ⟨
  .seq (.ops false [⟨some 2, .mv (.c (.bool false)), none⟩])
  (.seq (.ops false [⟨some 3, .mv (.t 0), none⟩, ⟨some 4, .peq true (.t 3) (.c (.nilp)), none⟩, ⟨some 5, .mv (.t 4), none⟩, ⟨some 6, .mv (.t 0), some (5, true)⟩, ⟨some 7, .nilck (.t 6), some (5, true)⟩, ⟨some 8, .faddr 0 (.t 7), some (5, true)⟩, ⟨some 9, .faddr 1 (.t 8), some (5, true)⟩, ⟨some 10, .load none (.t 9), some (5, true)⟩, ⟨some 11, .pick (.t 5) (.t 10) (.c (.bool false)), none⟩, ⟨some 2, .mv (.t 11), none⟩])
  (.ret)),
  [.t 2]⟩

/- (*noria/reader.Reader).At -/
def d_reader_Reader_At : DFun := ⟨
  .seq (.ops false [⟨some 2, .mv (.c (.int .i64 0)), none⟩])
  (.seq (.seq (.ops false [⟨some 3, .mv (.t 0), none⟩, ⟨some 4, .callH 18 [(.t 3)], none⟩, ⟨some 5, .un .not (.t 4), none⟩])
  (.cond (.t 5) (.seq (.ops false [⟨some 2, .mv (.c (.int .i64 0)), none⟩])
   (.ret))
   (.skip)))
  (.seq (.ops false [⟨some 6, .mv (.t 0), none⟩, ⟨some 7, .nilck (.t 6), none⟩, ⟨some 8, .faddr 2 (.t 7), none⟩, ⟨some 9, .load none (.t 8), none⟩, ⟨some 2, .mv (.t 9), none⟩])
  (.ret))),
  [.t 2]⟩

/- (*noria/reader.Reader).More -/
def d_reader_Reader_More : DFun := ⟨
  .seq (.ops false [⟨some 2, .mv (.c (.bool false)), none⟩])
  (.seq (.ops true [⟨some 3, .mv (.t 0), none⟩, ⟨some 4, .rd (.callH 18 [(.t 3)]), none⟩, ⟨some 5, .mv (.t 4), none⟩, ⟨some 6, .mv (.t 0), some (5, true)⟩, ⟨some 7, .nilck (.t 6), some (5, true)⟩, ⟨some 8, .faddr 2 (.t 7), some (5, true)⟩, ⟨some 9, .load none (.t 8), some (5, true)⟩, ⟨some 10, .mv (.t 0), some (5, true)⟩, ⟨some 11, .nilck (.t 10), some (5, true)⟩, ⟨some 12, .faddr 0 (.t 11), some (5, true)⟩, ⟨some 13, .faddr 0 (.t 12), some (5, true)⟩, ⟨some 14, .load none (.t 13), some (5, true)⟩, ⟨some 15, .len (.t 14), some (5, true)⟩, ⟨some 16, .bin .lss (.t 9) (.t 15), some (5, true)⟩, ⟨some 17, .pick (.t 5) (.t 16) (.c (.bool false)), none⟩, ⟨some 2, .mv (.t 17), none⟩])
  (.ret)),
  [.t 2]⟩

/- (*noria/noriaref03.R).More -/
def d_noriaref03_R_More : DFun := ⟨
  .seq (.ops false [⟨some 2, .mv (.c (.bool false)), none⟩])
  (.seq (.ops true [⟨some 3, .mv (.t 0), none⟩, ⟨some 4, .nilck (.t 3), none⟩, ⟨some 5, .faddr 2 (.t 4), none⟩, ⟨some 6, .load none (.t 5), none⟩, ⟨some 7, .un .not (.t 6), none⟩, ⟨some 8, .mv (.t 7), none⟩, ⟨some 9, .mv (.t 0), some (8, true)⟩, ⟨some 10, .nilck (.t 9), some (8, true)⟩, ⟨some 11, .faddr 1 (.t 10), some (8, true)⟩, ⟨some 12, .load none (.t 11), some (8, true)⟩, ⟨some 13, .mv (.t 0), some (8, true)⟩, ⟨some 14, .nilck (.t 13), some (8, true)⟩, ⟨some 15, .faddr 0 (.t 14), some (8, true)⟩, ⟨some 16, .load none (.t 15), some (8, true)⟩, ⟨some 17, .len (.t 16), some (8, true)⟩, ⟨some 18, .bin .lss (.t 12) (.t 17), some (8, true)⟩, ⟨some 19, .pick (.t 8) (.t 18) (.c (.bool false)), none⟩, ⟨some 2, .mv (.t 19), none⟩])
  (.ret)),
  [.t 2]⟩

/- noria/reader.New -/
def d_reader_New : DFun := ⟨
  .seq (.ops false [⟨some 0, .mv (.c (.nilp)), none⟩])
  (.seq (.ops false [⟨some 1, .build [.nil, .bool false] [(0, 1, (.c (.nil))), (1, 1, (.c (.bool true)))], none⟩, ⟨some 2, .build [.nil, .bool false] [(0, 2, (.t 1))], none⟩, ⟨some 3, .box (.t 2), none⟩, ⟨some 0, .mv (.t 3), none⟩])
  (.ret)),
  [.t 0]⟩

/- (*noria/reader.Writer).Num -/
def d_reader_Writer_Num : DFun := ⟨
  .seq (.seq (.ops false [⟨some 6, .mv (.t 0), none⟩, ⟨some 7, .callH 31 [(.t 6)], none⟩, ⟨some 8, .un .not (.t 7), none⟩])
  (.cond (.t 8) (.ret)
   (.skip)))
  (.seq (.seq (.ops false [⟨some 9, .mv (.t 2), none⟩, ⟨some 10, .bin .lss (.t 9) (.c (.int .i64 1)), none⟩, ⟨some 11, .mv (.t 10), none⟩, ⟨some 12, .mv (.t 2), some (11, false)⟩, ⟨some 13, .bin .gtr (.t 12) (.c (.int .i64 4)), some (11, false)⟩, ⟨some 14, .pick (.t 11) (.c (.bool true)) (.t 13), none⟩, ⟨some 15, .mv (.t 14), none⟩, ⟨some 16, .mv (.t 1), some (15, false)⟩, ⟨some 17, .bin .lss (.t 16) (.c (.int .i64 0)), some (15, false)⟩, ⟨some 18, .pick (.t 15) (.c (.bool true)) (.t 17), none⟩, ⟨some 19, .mv (.t 18), none⟩, ⟨some 20, .mv (.t 1), some (19, false)⟩, ⟨some 21, .mv (.t 2), some (19, false)⟩, ⟨some 22, .bin .mul (.c (.int .i64 8)) (.t 21), some (19, false)⟩, ⟨some 23, .bin .shr (.t 20) (.t 22), some (19, false)⟩, ⟨some 24, .bin .neq (.t 23) (.c (.int .i64 0)), some (19, false)⟩, ⟨some 25, .pick (.t 19) (.c (.bool true)) (.t 24), none⟩])
  (.cond (.t 25) (.seq (.ops false [⟨some 26, .mv (.t 0), none⟩, ⟨some 27, .nilck (.t 26), none⟩, ⟨some 28, .faddr 0 (.t 27), none⟩, ⟨some 29, .callH 40 [(.t 28)], none⟩])
   (.ret))
   (.skip)))
  (.ops false [⟨some 30, .mv (.t 0), none⟩, ⟨some 31, .mv (.t 1), none⟩, ⟨some 32, .conv .u64 (.t 31), none⟩, ⟨some 33, .mv (.t 2), none⟩, ⟨some 34, .callP 42 [(.t 32), (.t 33)], none⟩, ⟨some 35, .callH 41 [(.t 30), (.t 34)], none⟩])),
  []⟩

/- (*noria/noriaref03.W).Num -/
def d_noriaref03_W_Num : DFun := ⟨
  .seq (.ops false [⟨some 6, .mv (.c (.int .i64 1)), none⟩])
  (.seq (.seq (.ops false [⟨some 7, .mv (.c (.int .i64 0)), none⟩])
  (.block 0 (.loop [0, 1, 2, 6, 7] none (.seq (.seq (.ops false [⟨some 8, .mv (.t 7), none⟩, ⟨some 9, .mv (.t 2), none⟩, ⟨some 10, .bin .lss (.t 8) (.t 9), none⟩, ⟨some 11, .mv (.t 10), none⟩, ⟨some 12, .mv (.t 7), some (11, true)⟩, ⟨some 13, .bin .lss (.t 12) (.c (.int .i64 4)), some (11, true)⟩, ⟨some 14, .pick (.t 11) (.t 13) (.c (.bool false)), none⟩])
    (.cond (.t 14) (.skip)
     (.exit 0)))
    (.seq (.block 1 (.ops false [⟨some 17, .mv (.t 6), none⟩, ⟨some 18, .bin .mul (.t 17) (.c (.int .i64 256)), none⟩, ⟨some 6, .mv (.t 18), none⟩]))
    (.ops false [⟨some 15, .mv (.t 7), none⟩, ⟨some 16, .bin .add (.t 15) (.c (.int .i64 1)), none⟩, ⟨some 7, .mv (.t 16), none⟩]))))))
  (.seq (.seq (.ops false [⟨some 19, .mv (.t 0), none⟩, ⟨some 20, .nilck (.t 19), none⟩, ⟨some 21, .faddr 1 (.t 20), none⟩, ⟨some 22, .load none (.t 21), none⟩, ⟨some 23, .mv (.t 22), none⟩, ⟨some 24, .mv (.t 2), some (23, false)⟩, ⟨some 25, .bin .lss (.t 24) (.c (.int .i64 1)), some (23, false)⟩, ⟨some 26, .pick (.t 23) (.c (.bool true)) (.t 25), none⟩, ⟨some 27, .mv (.t 26), none⟩, ⟨some 28, .mv (.t 2), some (27, false)⟩, ⟨some 29, .bin .gtr (.t 28) (.c (.int .i64 4)), some (27, false)⟩, ⟨some 30, .pick (.t 27) (.c (.bool true)) (.t 29), none⟩, ⟨some 31, .mv (.t 30), none⟩, ⟨some 32, .mv (.t 1), some (31, false)⟩, ⟨some 33, .bin .lss (.t 32) (.c (.int .i64 0)), some (31, false)⟩, ⟨some 34, .pick (.t 31) (.c (.bool true)) (.t 33), none⟩, ⟨some 35, .mv (.t 34), none⟩, ⟨some 36, .mv (.t 1), some (35, false)⟩, ⟨some 37, .mv (.t 6), some (35, false)⟩, ⟨some 38, .bin .geq (.t 36) (.t 37), some (35, false)⟩, ⟨some 39, .pick (.t 35) (.c (.bool true)) (.t 38), none⟩])
  (.cond (.t 39) (.seq (.ops false [⟨some 40, .mv (.t 0), none⟩, ⟨some 41, .nilck (.t 40), none⟩, ⟨some 42, .faddr 1 (.t 41), none⟩, ⟨none, .store 1 (.t 42) (.c (.bool true)), none⟩])
   (.seq (.ops false [⟨some 43, .mv (.t 0), none⟩, ⟨some 44, .nilck (.t 43), none⟩, ⟨some 45, .faddr 0 (.t 44), none⟩, ⟨none, .store 1 (.t 45) (.c (.nil)), none⟩])
   (.ret)))
   (.skip)))
  (.ops true [⟨some 46, .mv (.t 0), none⟩, ⟨some 47, .mv (.t 0), none⟩, ⟨some 48, .nilck (.t 47), none⟩, ⟨some 49, .faddr 0 (.t 48), none⟩, ⟨some 50, .load none (.t 49), none⟩, ⟨some 51, .mv (.t 1), none⟩, ⟨some 52, .conv .u64 (.t 51), none⟩, ⟨some 53, .mv (.t 2), none⟩, ⟨some 54, .callP 43 [(.t 52), (.t 53)], none⟩, ⟨some 55, .append 1 (.t 50) (.t 54), none⟩, ⟨some 56, .nilck (.t 46), none⟩, ⟨some 57, .faddr 0 (.t 56), none⟩, ⟨none, .store 1 (.t 57) (.t 55), none⟩]))),
  []⟩

/- (*noria/reader.Writer).Int -/
def d_reader_Writer_Int : DFun := ⟨
  .seq (.ops false [⟨some 5, .mv (.t 1), none⟩, ⟨some 6, .callP 44 [(.t 5)], none⟩, ⟨some 4, .mv (.t 6), none⟩])
  (.seq (.ops false [⟨some 7, .mv (.t 0), none⟩, ⟨some 8, .mv (.t 4), none⟩, ⟨some 9, .len (.t 8), none⟩, ⟨some 10, .callH 23 [(.t 7), (.t 9), (.c (.int .i64 1))], none⟩])
  (.ops false [⟨some 11, .mv (.t 0), none⟩, ⟨some 12, .mv (.t 4), none⟩, ⟨some 13, .callH 41 [(.t 11), (.t 12)], none⟩])),
  []⟩

/- (*noria/noriaref03.W).Int -/
def d_noriaref03_W_Int : DFun := ⟨
  .seq (.ops false [⟨some 5, .mv (.t 1), none⟩, ⟨some 6, .callP 45 [(.t 5)], none⟩, ⟨some 4, .mv (.t 6), none⟩])
  (.seq (.ops false [⟨some 7, .mv (.t 0), none⟩, ⟨some 8, .mv (.t 4), none⟩, ⟨some 9, .len (.t 8), none⟩, ⟨some 10, .callH 24 [(.t 7), (.t 9), (.c (.int .i64 1))], none⟩])
  (.ops false [⟨some 11, .mv (.t 0), none⟩, ⟨some 12, .mv (.t 4), none⟩, ⟨some 13, .callH 46 [(.t 11), (.t 12)], none⟩])),
  []⟩

/- (*noria/reader.Writer).Text -/
def d_reader_Writer_Text : DFun := ⟨
  .seq (.ops false [⟨some 4, .mv (.t 0), none⟩, ⟨some 5, .mv (.t 1), none⟩, ⟨some 6, .lenS (.t 5), none⟩, ⟨some 7, .callH 23 [(.t 4), (.t 6), (.c (.int .i64 2))], none⟩])
  (.ops false [⟨some 8, .mv (.t 0), none⟩, ⟨some 9, .mv (.t 1), none⟩, ⟨some 10, .s2b (.t 9), none⟩, ⟨some 11, .callH 41 [(.t 8), (.t 10)], none⟩]),
  []⟩

/- (*noria/noriaref03.W).Text -/
def d_noriaref03_W_Text : DFun := ⟨
  .seq (.ops false [⟨some 4, .mv (.t 0), none⟩, ⟨some 5, .mv (.t 1), none⟩, ⟨some 6, .lenS (.t 5), none⟩, ⟨some 7, .callH 24 [(.t 4), (.t 6), (.c (.int .i64 2))], none⟩])
  (.ops false [⟨some 8, .mv (.t 0), none⟩, ⟨some 9, .mv (.t 1), none⟩, ⟨some 10, .s2b (.t 9), none⟩, ⟨some 11, .callH 46 [(.t 8), (.t 10)], none⟩]),
  []⟩

/- (*noria/reader.Writer).Part -/
def d_reader_Writer_Part : DFun := ⟨
  .seq (.ops false [⟨some 4, .mv (.t 0), none⟩, ⟨some 5, .mv (.t 1), none⟩, ⟨some 6, .len (.t 5), none⟩, ⟨some 7, .callH 23 [(.t 4), (.t 6), (.c (.int .i64 4))], none⟩])
  (.ops false [⟨some 8, .mv (.t 0), none⟩, ⟨some 9, .mv (.t 1), none⟩, ⟨some 10, .callH 41 [(.t 8), (.t 9)], none⟩]),
  []⟩

/- (*noria/noriaref03.W).Part -/
def d_noriaref03_W_Part : DFun := ⟨
  .seq (.ops false [⟨some 4, .mv (.t 0), none⟩, ⟨some 5, .mv (.t 1), none⟩, ⟨some 6, .len (.t 5), none⟩, ⟨some 7, .callH 24 [(.t 4), (.t 6), (.c (.int .i64 4))], none⟩])
  (.ops false [⟨some 8, .mv (.t 0), none⟩, ⟨some 9, .mv (.t 1), none⟩, ⟨some 10, .callH 46 [(.t 8), (.t 9)], none⟩]),
  []⟩

/- (*noria/reader.Writer).Ok -/
def d_reader_Writer_Ok : DFun := ⟨
  .seq (.ops false [⟨some 2, .mv (.c (.bool false)), none⟩])
  (.seq (.ops false [⟨some 3, .mv (.t 0), none⟩, ⟨some 4, .peq true (.t 3) (.c (.nilp)), none⟩, ⟨some 5, .mv (.t 4), none⟩, ⟨some 6, .mv (.t 0), some (5, true)⟩, ⟨some 7, .nilck (.t 6), some (5, true)⟩, ⟨some 8, .faddr 0 (.t 7), some (5, true)⟩, ⟨some 9, .faddr 1 (.t 8), some (5, true)⟩, ⟨some 10, .load none (.t 9), some (5, true)⟩, ⟨some 11, .pick (.t 5) (.t 10) (.c (.bool false)), none⟩, ⟨some 2, .mv (.t 11), none⟩])
  (.ret)),
  [.t 2]⟩

/- (*noria/reader.Writer).Bytes -/
def d_reader_Writer_Bytes : DFun := ⟨
  .seq (.ops false [⟨some 2, .mv (.c (.nil)), none⟩])
  (.seq (.seq (.ops false [⟨some 3, .mv (.t 0), none⟩, ⟨some 4, .callH 31 [(.t 3)], none⟩, ⟨some 5, .un .not (.t 4), none⟩])
  (.cond (.t 5) (.seq (.ops false [⟨some 2, .mv (.c (.nil)), none⟩])
   (.ret))
   (.skip)))
  (.seq (.ops false [⟨some 6, .mv (.t 0), none⟩, ⟨some 7, .nilck (.t 6), none⟩, ⟨some 8, .faddr 0 (.t 7), none⟩, ⟨some 9, .faddr 0 (.t 8), none⟩, ⟨some 10, .load none (.t 9), none⟩, ⟨some 11, .callH 33 [(.t 10)], none⟩, ⟨some 2, .mv (.t 11), none⟩])
  (.ret))),
  [.t 2]⟩

/- slices.Clone[[]byte,byte] -/
def d_slices_Clone_byte_byte : DFun := ⟨
  .seq (.ops false [⟨some 2, .mv (.c (.nil)), none⟩])
  (.seq (.seq (.ops false [⟨some 3, .mv (.t 0), none⟩, ⟨some 4, .snil false (.t 3), none⟩])
  (.cond (.t 4) (.seq (.ops false [⟨some 2, .mv (.c (.nil)), none⟩])
   (.ret))
   (.skip)))
  (.seq (.ops false [⟨some 5, .bslice false [.int .u8 0] [], none⟩, ⟨some 6, .mv (.t 0), none⟩, ⟨some 7, .append 1 (.t 5) (.t 6), none⟩, ⟨some 2, .mv (.t 7), none⟩])
  (.ret))),
  [.t 2]⟩

/- noria/octet.Get -/
def d_octet_Get : DFun := ⟨
  .seq (.ops false [⟨some 2, .mv (.c (.int .u64 0)), none⟩])
  (.seq (.ops false [⟨some 3, .mv (.c (.int .u64 0)), none⟩])
  (.seq (.seq (.ops false [⟨some 6, .mv (.t 0), none⟩, ⟨some 7, .len (.t 6), none⟩, ⟨some 8, .mv (.c (.int .i64 0)), none⟩])
  (.block 0 (.loop [3, 6, 7, 8] (some 0) (.seq (.ops false [⟨some 9, .bin .lss (.t 8) (.t 7), none⟩])
    (.seq (.cond (.t 9) (.skip)
     (.exit 0))
    (.seq (.block 1 (.seq (.ops false [⟨some 10, .iaddr 1 (.t 6) (.t 8), none⟩, ⟨some 11, .load none (.t 10), none⟩, ⟨some 5, .mv (.t 11), none⟩])
     (.ops false [⟨some 12, .mv (.t 3), none⟩, ⟨some 13, .bin .shl (.t 12) (.c (.int .u64 8)), none⟩, ⟨some 14, .mv (.t 5), none⟩, ⟨some 15, .conv .u64 (.t 14), none⟩, ⟨some 16, .bin .or (.t 13) (.t 15), none⟩, ⟨some 3, .mv (.t 16), none⟩])))
    (.ops false [⟨some 17, .bin .add (.t 8) (.c (.int .i64 1)), none⟩, ⟨some 8, .mv (.t 17), none⟩])))))))
  (.seq (.ops false [⟨some 18, .mv (.t 3), none⟩, ⟨some 2, .mv (.t 18), none⟩])
  (.ret)))),
  [.t 2]⟩

/- (*noria/reader.Reader).next -/
def d_reader_Reader_next : DFun := ⟨
  .seq (.ops false [⟨some 4, .mv (.c (.nil)), none⟩])
  (.seq (.seq (.ops false [⟨some 6, .mv (.t 0), none⟩, ⟨some 7, .callH 18 [(.t 6)], none⟩, ⟨some 8, .un .not (.t 7), none⟩])
  (.cond (.t 8) (.seq (.ops false [⟨some 4, .mv (.c (.nil)), none⟩])
   (.ret))
   (.skip)))
  (.seq (.seq (.ops true [⟨some 9, .mv (.t 1), none⟩, ⟨some 10, .bin .lss (.t 9) (.c (.int .i64 0)), none⟩, ⟨some 11, .mv (.t 10), none⟩, ⟨some 12, .mv (.t 1), some (11, false)⟩, ⟨some 13, .mv (.t 0), some (11, false)⟩, ⟨some 14, .nilck (.t 13), some (11, false)⟩, ⟨some 15, .faddr 0 (.t 14), some (11, false)⟩, ⟨some 16, .faddr 0 (.t 15), some (11, false)⟩, ⟨some 17, .load none (.t 16), some (11, false)⟩, ⟨some 18, .len (.t 17), some (11, false)⟩, ⟨some 19, .mv (.t 0), some (11, false)⟩, ⟨some 20, .nilck (.t 19), some (11, false)⟩, ⟨some 21, .faddr 2 (.t 20), some (11, false)⟩, ⟨some 22, .load none (.t 21), some (11, false)⟩, ⟨some 23, .bin .sub (.t 18) (.t 22), some (11, false)⟩, ⟨some 24, .bin .gtr (.t 12) (.t 23), some (11, false)⟩, ⟨some 25, .pick (.t 11) (.c (.bool true)) (.t 24), none⟩])
  (.cond (.t 25) (.seq (.ops false [⟨some 26, .mv (.t 0), none⟩, ⟨some 27, .nilck (.t 26), none⟩, ⟨some 28, .faddr 0 (.t 27), none⟩, ⟨some 29, .callH 40 [(.t 28)], none⟩])
   (.seq (.ops false [⟨some 30, .mv (.t 0), none⟩, ⟨some 31, .nilck (.t 30), none⟩, ⟨some 32, .faddr 2 (.t 31), none⟩, ⟨none, .store 1 (.t 32) (.c (.int .i64 0)), none⟩])
   (.seq (.ops false [⟨some 4, .mv (.c (.nil)), none⟩])
   (.ret))))
   (.skip)))
  (.seq (.ops false [⟨some 33, .mv (.t 0), none⟩, ⟨some 34, .nilck (.t 33), none⟩, ⟨some 35, .faddr 2 (.t 34), none⟩, ⟨some 36, .load none (.t 35), none⟩, ⟨some 5, .mv (.t 36), none⟩])
  (.seq (.ops false [⟨some 37, .mv (.t 0), none⟩, ⟨some 38, .nilck (.t 37), none⟩, ⟨some 39, .faddr 2 (.t 38), none⟩, ⟨some 40, .load none (.t 39), none⟩, ⟨some 41, .mv (.t 1), none⟩, ⟨some 42, .bin .add (.t 40) (.t 41), none⟩, ⟨some 43, .nilck (.t 37), none⟩, ⟨some 44, .faddr 2 (.t 43), none⟩, ⟨none, .store 1 (.t 44) (.t 42), none⟩])
  (.seq (.ops true [⟨some 45, .mv (.t 0), none⟩, ⟨some 46, .nilck (.t 45), none⟩, ⟨some 47, .faddr 0 (.t 46), none⟩, ⟨some 48, .faddr 0 (.t 47), none⟩, ⟨some 49, .load none (.t 48), none⟩, ⟨some 50, .mv (.t 5), none⟩, ⟨some 51, .mv (.t 0), none⟩, ⟨some 52, .nilck (.t 51), none⟩, ⟨some 53, .faddr 2 (.t 52), none⟩, ⟨some 54, .load none (.t 53), none⟩, ⟨some 55, .mv (.t 0), none⟩, ⟨some 56, .nilck (.t 55), none⟩, ⟨some 57, .faddr 2 (.t 56), none⟩, ⟨some 58, .load none (.t 57), none⟩, ⟨some 59, .slice 1 (.t 49) (some (.t 50)) (some (.t 54)) (some (.t 58)), none⟩, ⟨some 4, .mv (.t 59), none⟩])
  (.ret)))))),
  [.t 4]⟩

/- noria/noriaref01.Get -/
def d_noriaref01_Get : DFun := ⟨
  .seq (.ops false [⟨some 2, .mv (.c (.int .u64 0)), none⟩])
  (.seq (.ops false [⟨some 3, .mv (.c (.int .u64 0)), none⟩])
  (.seq (.seq (.ops false [⟨some 4, .mv (.c (.int .i64 0)), none⟩])
  (.block 0 (.loop [0, 3, 4] (some 0) (.seq (.seq (.ops false [⟨some 5, .mv (.t 4), none⟩, ⟨some 6, .mv (.t 0), none⟩, ⟨some 7, .len (.t 6), none⟩, ⟨some 8, .bin .lss (.t 5) (.t 7), none⟩])
    (.cond (.t 8) (.skip)
     (.exit 0)))
    (.seq (.block 1 (.ops false [⟨some 11, .mv (.t 3), none⟩, ⟨some 12, .bin .mul (.t 11) (.c (.int .u64 256)), none⟩, ⟨some 13, .mv (.t 0), none⟩, ⟨some 14, .mv (.t 4), none⟩, ⟨some 15, .iaddr 1 (.t 13) (.t 14), none⟩, ⟨some 16, .load none (.t 15), none⟩, ⟨some 17, .conv .u64 (.t 16), none⟩, ⟨some 18, .bin .add (.t 12) (.t 17), none⟩, ⟨some 3, .mv (.t 18), none⟩]))
    (.ops false [⟨some 9, .mv (.t 4), none⟩, ⟨some 10, .bin .add (.t 9) (.c (.int .i64 1)), none⟩, ⟨some 4, .mv (.t 10), none⟩]))))))
  (.seq (.ops false [⟨some 19, .mv (.t 3), none⟩, ⟨some 2, .mv (.t 19), none⟩])
  (.ret)))),
  [.t 2]⟩

/- (*noria/noriaref03.R).take -/
def d_noriaref03_R_take : DFun := ⟨
  .seq (.ops false [⟨some 4, .mv (.c (.nil)), none⟩])
  (.seq (.seq (.ops true [⟨some 5, .mv (.t 0), none⟩, ⟨some 6, .nilck (.t 5), none⟩, ⟨some 7, .faddr 2 (.t 6), none⟩, ⟨some 8, .load none (.t 7), none⟩, ⟨some 9, .mv (.t 8), none⟩, ⟨some 10, .mv (.t 1), some (9, false)⟩, ⟨some 11, .bin .lss (.t 10) (.c (.int .i64 0)), some (9, false)⟩, ⟨some 12, .pick (.t 9) (.c (.bool true)) (.t 11), none⟩, ⟨some 13, .mv (.t 12), none⟩, ⟨some 14, .mv (.t 1), some (13, false)⟩, ⟨some 15, .mv (.t 0), some (13, false)⟩, ⟨some 16, .nilck (.t 15), some (13, false)⟩, ⟨some 17, .faddr 0 (.t 16), some (13, false)⟩, ⟨some 18, .load none (.t 17), some (13, false)⟩, ⟨some 19, .len (.t 18), some (13, false)⟩, ⟨some 20, .mv (.t 0), some (13, false)⟩, ⟨some 21, .nilck (.t 20), some (13, false)⟩, ⟨some 22, .faddr 1 (.t 21), some (13, false)⟩, ⟨some 23, .load none (.t 22), some (13, false)⟩, ⟨some 24, .bin .sub (.t 19) (.t 23), some (13, false)⟩, ⟨some 25, .bin .gtr (.t 14) (.t 24), some (13, false)⟩, ⟨some 26, .pick (.t 13) (.c (.bool true)) (.t 25), none⟩])
  (.cond (.t 26) (.seq (.ops false [⟨some 27, .mv (.t 0), none⟩, ⟨some 28, .nilck (.t 27), none⟩, ⟨some 29, .faddr 2 (.t 28), none⟩, ⟨none, .store 1 (.t 29) (.c (.bool true)), none⟩])
   (.seq (.ops false [⟨some 30, .mv (.t 0), none⟩, ⟨some 31, .nilck (.t 30), none⟩, ⟨some 32, .faddr 1 (.t 31), none⟩, ⟨none, .store 1 (.t 32) (.c (.int .i64 0)), none⟩])
   (.seq (.ops false [⟨some 4, .mv (.c (.nil)), none⟩])
   (.ret))))
   (.skip)))
  (.seq (.ops false [⟨some 33, .mv (.t 0), none⟩, ⟨some 34, .mv (.t 0), none⟩, ⟨some 35, .nilck (.t 34), none⟩, ⟨some 36, .faddr 1 (.t 35), none⟩, ⟨some 37, .load none (.t 36), none⟩, ⟨some 38, .mv (.t 1), none⟩, ⟨some 39, .bin .add (.t 37) (.t 38), none⟩, ⟨some 40, .nilck (.t 33), none⟩, ⟨some 41, .faddr 1 (.t 40), none⟩, ⟨none, .store 1 (.t 41) (.t 39), none⟩])
  (.seq (.ops true [⟨some 42, .mv (.t 0), none⟩, ⟨some 43, .nilck (.t 42), none⟩, ⟨some 44, .faddr 0 (.t 43), none⟩, ⟨some 45, .load none (.t 44), none⟩, ⟨some 46, .mv (.t 0), none⟩, ⟨some 47, .nilck (.t 46), none⟩, ⟨some 48, .faddr 1 (.t 47), none⟩, ⟨some 49, .load none (.t 48), none⟩, ⟨some 50, .mv (.t 1), none⟩, ⟨some 51, .bin .sub (.t 49) (.t 50), none⟩, ⟨some 52, .mv (.t 0), none⟩, ⟨some 53, .nilck (.t 52), none⟩, ⟨some 54, .faddr 1 (.t 53), none⟩, ⟨some 55, .load none (.t 54), none⟩, ⟨some 56, .slice 1 (.t 45) (some (.t 51)) (some (.t 55)) none, none⟩, ⟨some 4, .mv (.t 56), none⟩])
  (.ret)))),
  [.t 4]⟩

/- noria/octet.Back -/
def d_octet_Back : DFun := ⟨
  .seq (.ops false [⟨some 2, .mv (.c (.int .i64 0)), none⟩, ⟨some 3, .mv (.c (.bool false)), none⟩])
  (.seq (.seq (.ops false [⟨some 5, .mv (.t 0), none⟩, ⟨some 6, .len (.t 5), none⟩, ⟨some 7, .bin .lss (.t 6) (.c (.int .i64 1)), none⟩, ⟨some 8, .mv (.t 7), none⟩, ⟨some 9, .mv (.t 0), some (8, false)⟩, ⟨some 10, .len (.t 9), some (8, false)⟩, ⟨some 11, .bin .gtr (.t 10) (.c (.int .i64 8)), some (8, false)⟩, ⟨some 12, .pick (.t 8) (.c (.bool true)) (.t 11), none⟩, ⟨some 13, .mv (.t 12), none⟩, ⟨some 14, .mv (.t 0), some (13, false)⟩, ⟨some 15, .callP 47 [(.t 14)], some (13, false)⟩, ⟨some 16, .pick (.t 13) (.c (.bool true)) (.t 15), none⟩])
  (.cond (.t 16) (.seq (.ops false [⟨some 2, .mv (.c (.int .i64 0)), none⟩, ⟨some 3, .mv (.c (.bool false)), none⟩])
   (.ret))
   (.skip)))
  (.seq (.ops false [⟨some 17, .mv (.t 0), none⟩, ⟨some 18, .len (.t 17), none⟩, ⟨some 19, .bin .sub (.c (.int .i64 8)) (.t 18), none⟩, ⟨some 20, .bin .mul (.c (.int .i64 8)) (.t 19), none⟩, ⟨some 4, .mv (.t 20), none⟩])
  (.seq (.ops false [⟨some 21, .mv (.t 0), none⟩, ⟨some 22, .callP 34 [(.t 21)], none⟩, ⟨some 23, .mv (.t 4), none⟩, ⟨some 24, .bin .shl (.t 22) (.t 23), none⟩, ⟨some 25, .conv .i64 (.t 24), none⟩, ⟨some 26, .mv (.t 4), none⟩, ⟨some 27, .bin .shr (.t 25) (.t 26), none⟩, ⟨some 2, .mv (.t 27), none⟩, ⟨some 3, .mv (.c (.bool true)), none⟩])
  (.ret)))),
  [.t 2, .t 3]⟩

/- noria/noriaref01.Back -/
def d_noriaref01_Back : DFun := ⟨
  .seq (.ops false [⟨some 2, .mv (.c (.int .i64 0)), none⟩, ⟨some 3, .mv (.c (.bool false)), none⟩])
  (.seq (.seq (.ops false [⟨some 6, .mv (.t 0), none⟩, ⟨some 7, .len (.t 6), none⟩, ⟨some 8, .bin .lss (.t 7) (.c (.int .i64 1)), none⟩, ⟨some 9, .mv (.t 8), none⟩, ⟨some 10, .mv (.t 0), some (9, false)⟩, ⟨some 11, .len (.t 10), some (9, false)⟩, ⟨some 12, .bin .gtr (.t 11) (.c (.int .i64 8)), some (9, false)⟩, ⟨some 13, .pick (.t 9) (.c (.bool true)) (.t 12), none⟩])
  (.cond (.t 13) (.seq (.ops false [⟨some 2, .mv (.c (.int .i64 0)), none⟩, ⟨some 3, .mv (.c (.bool false)), none⟩])
   (.ret))
   (.skip)))
  (.seq (.seq (.ops false [⟨some 14, .mv (.t 0), none⟩, ⟨some 15, .len (.t 14), none⟩, ⟨some 16, .bin .gtr (.t 15) (.c (.int .i64 1)), none⟩, ⟨some 17, .mv (.t 16), none⟩, ⟨some 18, .mv (.t 0), some (17, true)⟩, ⟨some 19, .iaddr 1 (.t 18) (.c (.int .i64 0)), some (17, true)⟩, ⟨some 20, .load none (.t 19), some (17, true)⟩, ⟨some 21, .bin .eql (.t 20) (.c (.int .u8 0)), some (17, true)⟩, ⟨some 22, .mv (.t 21), some (17, true)⟩, ⟨some 23, .mv (.t 0), some (22, true)⟩, ⟨some 24, .iaddr 1 (.t 23) (.c (.int .i64 1)), some (22, true)⟩, ⟨some 25, .load none (.t 24), some (22, true)⟩, ⟨some 26, .bin .lss (.t 25) (.c (.int .u8 128)), some (22, true)⟩, ⟨some 27, .pick (.t 22) (.t 26) (.c (.bool false)), some (17, true)⟩, ⟨some 28, .mv (.t 27), some (17, true)⟩, ⟨some 29, .mv (.t 0), some (28, false)⟩, ⟨some 30, .iaddr 1 (.t 29) (.c (.int .i64 0)), some (28, false)⟩, ⟨some 31, .load none (.t 30), some (28, false)⟩, ⟨some 32, .bin .eql (.t 31) (.c (.int .u8 255)), some (28, false)⟩, ⟨some 33, .mv (.t 32), some (28, false)⟩, ⟨some 34, .mv (.t 0), some (33, true)⟩, ⟨some 35, .iaddr 1 (.t 34) (.c (.int .i64 1)), some (33, true)⟩, ⟨some 36, .load none (.t 35), some (33, true)⟩, ⟨some 37, .bin .geq (.t 36) (.c (.int .u8 128)), some (33, true)⟩, ⟨some 38, .pick (.t 33) (.t 37) (.c (.bool false)), some (28, false)⟩, ⟨some 39, .pick (.t 28) (.c (.bool true)) (.t 38), some (17, true)⟩, ⟨some 40, .pick (.t 17) (.t 39) (.c (.bool false)), none⟩])
  (.cond (.t 40) (.seq (.ops false [⟨some 2, .mv (.c (.int .i64 0)), none⟩, ⟨some 3, .mv (.c (.bool false)), none⟩])
   (.ret))
   (.skip)))
  (.seq (.ops false [⟨some 4, .mv (.c (.int .u64 0)), none⟩])
  (.seq (.seq (.ops false [⟨some 41, .mv (.t 0), none⟩, ⟨some 42, .iaddr 1 (.t 41) (.c (.int .i64 0)), none⟩, ⟨some 43, .load none (.t 42), none⟩, ⟨some 44, .bin .geq (.t 43) (.c (.int .u8 128)), none⟩])
  (.cond (.t 44) (.ops false [⟨some 45, .mv (.t 4), none⟩, ⟨some 46, .bin .sub (.t 45) (.c (.int .u64 1)), none⟩, ⟨some 4, .mv (.t 46), none⟩])
   (.skip)))
  (.seq (.seq (.ops false [⟨some 5, .mv (.c (.int .i64 0)), none⟩])
  (.block 0 (.loop [0, 4, 5] (some 0) (.seq (.seq (.ops false [⟨some 47, .mv (.t 5), none⟩, ⟨some 48, .mv (.t 0), none⟩, ⟨some 49, .len (.t 48), none⟩, ⟨some 50, .bin .lss (.t 47) (.t 49), none⟩])
    (.cond (.t 50) (.skip)
     (.exit 0)))
    (.seq (.block 1 (.ops false [⟨some 53, .mv (.t 4), none⟩, ⟨some 54, .bin .mul (.t 53) (.c (.int .u64 256)), none⟩, ⟨some 55, .mv (.t 0), none⟩, ⟨some 56, .mv (.t 5), none⟩, ⟨some 57, .iaddr 1 (.t 55) (.t 56), none⟩, ⟨some 58, .load none (.t 57), none⟩, ⟨some 59, .conv .u64 (.t 58), none⟩, ⟨some 60, .bin .add (.t 54) (.t 59), none⟩, ⟨some 4, .mv (.t 60), none⟩]))
    (.ops false [⟨some 51, .mv (.t 5), none⟩, ⟨some 52, .bin .add (.t 51) (.c (.int .i64 1)), none⟩, ⟨some 5, .mv (.t 52), none⟩]))))))
  (.seq (.ops false [⟨some 61, .mv (.t 4), none⟩, ⟨some 62, .conv .i64 (.t 61), none⟩, ⟨some 2, .mv (.t 62), none⟩, ⟨some 3, .mv (.c (.bool true)), none⟩])
  (.ret))))))),
  [.t 2, .t 3]⟩

/- (*noria/reader.state).fail -/
def d_reader_state_fail : DFun := ⟨
  .ops false [⟨some 2, .mv (.t 0), none⟩, ⟨some 3, .mv (.t 0), none⟩, ⟨some 4, .nilck (.t 2), none⟩, ⟨some 5, .faddr 1 (.t 4), none⟩, ⟨none, .store 1 (.t 5) (.c (.bool false)), none⟩, ⟨some 6, .nilck (.t 3), none⟩, ⟨some 7, .faddr 0 (.t 6), none⟩, ⟨none, .store 1 (.t 7) (.c (.nil)), none⟩],
  []⟩

/- (*noria/reader.Writer).lay -/
def d_reader_Writer_lay : DFun := ⟨
  .seq (.ops false [⟨some 4, .mv (.t 0), none⟩, ⟨some 5, .callH 31 [(.t 4)], none⟩])
  (.cond (.t 5) (.ops false [⟨some 6, .mv (.t 0), none⟩, ⟨some 7, .mv (.t 0), none⟩, ⟨some 8, .nilck (.t 7), none⟩, ⟨some 9, .faddr 0 (.t 8), none⟩, ⟨some 10, .faddr 0 (.t 9), none⟩, ⟨some 11, .load none (.t 10), none⟩, ⟨some 12, .mv (.t 1), none⟩, ⟨some 13, .append 1 (.t 11) (.t 12), none⟩, ⟨some 14, .nilck (.t 6), none⟩, ⟨some 15, .faddr 0 (.t 14), none⟩, ⟨some 16, .faddr 0 (.t 15), none⟩, ⟨none, .store 1 (.t 16) (.t 13), none⟩])
   (.skip)),
  []⟩

/- noria/octet.Put -/
def d_octet_Put : DFun := ⟨
  .seq (.ops false [⟨some 4, .mv (.c (.nil)), none⟩])
  (.seq (.seq (.ops false [⟨some 7, .mv (.t 1), none⟩, ⟨some 8, .bin .lss (.t 7) (.c (.int .i64 1)), none⟩, ⟨some 9, .mv (.t 8), none⟩, ⟨some 10, .mv (.t 1), some (9, false)⟩, ⟨some 11, .bin .gtr (.t 10) (.c (.int .i64 8)), some (9, false)⟩, ⟨some 12, .pick (.t 9) (.c (.bool true)) (.t 11), none⟩])
  (.cond (.t 12) (.seq (.ops false [⟨some 4, .mv (.c (.nil)), none⟩])
   (.ret))
   (.skip)))
  (.seq (.ops false [⟨some 13, .mv (.t 1), none⟩, ⟨some 14, .make [.int .u8 0] (.t 13) (.t 13), none⟩, ⟨some 5, .mv (.t 14), none⟩])
  (.seq (.seq (.ops false [⟨some 15, .mv (.t 1), none⟩, ⟨some 16, .mv (.c (.int .i64 0)), none⟩])
  (.block 0 (.loop [0, 1, 5, 15, 16] (some 1) (.seq (.ops false [⟨some 17, .bin .lss (.t 16) (.t 15), none⟩])
    (.seq (.cond (.t 17) (.skip)
     (.exit 0))
    (.seq (.block 1 (.seq (.ops false [⟨some 18, .mv (.t 16), none⟩, ⟨some 6, .mv (.t 18), none⟩])
     (.ops false [⟨some 19, .mv (.t 5), none⟩, ⟨some 20, .mv (.t 1), none⟩, ⟨some 21, .bin .sub (.t 20) (.c (.int .i64 1)), none⟩, ⟨some 22, .mv (.t 6), none⟩, ⟨some 23, .bin .sub (.t 21) (.t 22), none⟩, ⟨some 24, .mv (.t 0), none⟩, ⟨some 25, .mv (.t 6), none⟩, ⟨some 26, .bin .mul (.c (.int .i64 8)) (.t 25), none⟩, ⟨some 27, .bin .shr (.t 24) (.t 26), none⟩, ⟨some 28, .conv .u8 (.t 27), none⟩, ⟨some 29, .iaddr 1 (.t 19) (.t 23), none⟩, ⟨none, .store 1 (.t 29) (.t 28), none⟩])))
    (.ops false [⟨some 30, .bin .add (.t 16) (.c (.int .i64 1)), none⟩, ⟨some 16, .mv (.t 30), none⟩])))))))
  (.seq (.ops false [⟨some 31, .mv (.t 5), none⟩, ⟨some 4, .mv (.t 31), none⟩])
  (.ret))))),
  [.t 4]⟩

/- noria/noriaref01.Put -/
def d_noriaref01_Put : DFun := ⟨
  .seq (.ops false [⟨some 4, .mv (.c (.nil)), none⟩])
  (.seq (.seq (.ops false [⟨some 7, .mv (.t 1), none⟩, ⟨some 8, .bin .lss (.t 7) (.c (.int .i64 1)), none⟩, ⟨some 9, .mv (.t 8), none⟩, ⟨some 10, .mv (.t 1), some (9, false)⟩, ⟨some 11, .bin .gtr (.t 10) (.c (.int .i64 8)), some (9, false)⟩, ⟨some 12, .pick (.t 9) (.c (.bool true)) (.t 11), none⟩])
  (.cond (.t 12) (.seq (.ops false [⟨some 4, .mv (.c (.nil)), none⟩])
   (.ret))
   (.skip)))
  (.seq (.ops false [⟨some 13, .bslice true [.int .u8 0] [], none⟩, ⟨some 5, .mv (.t 13), none⟩])
  (.seq (.seq (.ops false [⟨some 6, .mv (.c (.int .i64 0)), none⟩])
  (.block 0 (.loop [0, 1, 5, 6] (some 0) (.seq (.seq (.ops false [⟨some 14, .mv (.t 6), none⟩, ⟨some 15, .mv (.t 1), none⟩, ⟨some 16, .bin .lss (.t 14) (.t 15), none⟩])
    (.cond (.t 16) (.skip)
     (.exit 0)))
    (.seq (.block 1 (.seq (.ops false [⟨some 19, .mv (.t 0), none⟩, ⟨some 20, .bin .rem (.t 19) (.c (.int .u64 256)), none⟩, ⟨some 21, .conv .u8 (.t 20), none⟩, ⟨some 22, .bslice false [.int .u8 0] [(some (.t 21))], none⟩, ⟨some 23, .mv (.t 5), none⟩, ⟨some 24, .append 1 (.t 22) (.t 23), none⟩, ⟨some 5, .mvf (.t 24), none⟩])
     (.ops false [⟨some 25, .mv (.t 0), none⟩, ⟨some 26, .bin .quo (.t 25) (.c (.int .u64 256)), none⟩, ⟨some 0, .mv (.t 26), none⟩])))
    (.ops false [⟨some 17, .mv (.t 6), none⟩, ⟨some 18, .bin .add (.t 17) (.c (.int .i64 1)), none⟩, ⟨some 6, .mv (.t 18), none⟩]))))))
  (.seq (.ops false [⟨some 27, .mv (.t 5), none⟩, ⟨some 4, .mv (.t 27), none⟩])
  (.ret))))),
  [.t 4]⟩

/- noria/octet.Int -/
def d_octet_Int : DFun := ⟨
  .seq (.ops false [⟨some 2, .mv (.c (.nil)), none⟩])
  (.seq (.ops false [⟨some 4, .mv (.t 0), none⟩, ⟨some 5, .conv .u64 (.t 4), none⟩, ⟨some 6, .callP 42 [(.t 5), (.c (.int .i64 8))], none⟩, ⟨some 3, .mv (.t 6), none⟩])
  (.seq (.block 0 (.loop [3] (some 0) (.seq (.seq (.ops false [⟨some 7, .mv (.t 3), none⟩, ⟨some 8, .callP 47 [(.t 7)], none⟩])
    (.cond (.t 8) (.skip)
     (.exit 0)))
    (.block 1 (.ops false [⟨some 9, .mv (.t 3), none⟩, ⟨some 10, .slice 1 (.t 9) (some (.c (.int .i64 1))) none none, none⟩, ⟨some 3, .mv (.t 10), none⟩])))))
  (.seq (.ops false [⟨some 11, .mv (.t 3), none⟩, ⟨some 12, .callP 33 [(.t 11)], none⟩, ⟨some 2, .mv (.t 12), none⟩])
  (.ret)))),
  [.t 2]⟩

/- noria/noriaref01.Int -/
def d_noriaref01_Int : DFun := ⟨
  .seq (.ops false [⟨some 2, .mv (.c (.nil)), none⟩])
  (.seq (.ops false [⟨some 4, .mv (.t 0), none⟩, ⟨some 5, .conv .u64 (.t 4), none⟩, ⟨some 6, .callP 43 [(.t 5), (.c (.int .i64 8))], none⟩, ⟨some 3, .mv (.t 6), none⟩])
  (.seq (.block 0 (.loop [3] (some 0) (.seq (.seq (.ops false [⟨some 7, .mv (.t 3), none⟩, ⟨some 8, .len (.t 7), none⟩, ⟨some 9, .bin .gtr (.t 8) (.c (.int .i64 1)), none⟩, ⟨some 10, .mv (.t 9), none⟩, ⟨some 11, .mv (.t 3), some (10, true)⟩, ⟨some 12, .iaddr 1 (.t 11) (.c (.int .i64 0)), some (10, true)⟩, ⟨some 13, .load none (.t 12), some (10, true)⟩, ⟨some 14, .bin .eql (.t 13) (.c (.int .u8 0)), some (10, true)⟩, ⟨some 15, .mv (.t 14), some (10, true)⟩, ⟨some 16, .mv (.t 3), some (15, true)⟩, ⟨some 17, .iaddr 1 (.t 16) (.c (.int .i64 1)), some (15, true)⟩, ⟨some 18, .load none (.t 17), some (15, true)⟩, ⟨some 19, .bin .lss (.t 18) (.c (.int .u8 128)), some (15, true)⟩, ⟨some 20, .pick (.t 15) (.t 19) (.c (.bool false)), some (10, true)⟩, ⟨some 21, .mv (.t 20), some (10, true)⟩, ⟨some 22, .mv (.t 3), some (21, false)⟩, ⟨some 23, .iaddr 1 (.t 22) (.c (.int .i64 0)), some (21, false)⟩, ⟨some 24, .load none (.t 23), some (21, false)⟩, ⟨some 25, .bin .eql (.t 24) (.c (.int .u8 255)), some (21, false)⟩, ⟨some 26, .mv (.t 25), some (21, false)⟩, ⟨some 27, .mv (.t 3), some (26, true)⟩, ⟨some 28, .iaddr 1 (.t 27) (.c (.int .i64 1)), some (26, true)⟩, ⟨some 29, .load none (.t 28), some (26, true)⟩, ⟨some 30, .bin .geq (.t 29) (.c (.int .u8 128)), some (26, true)⟩, ⟨some 31, .pick (.t 26) (.t 30) (.c (.bool false)), some (21, false)⟩, ⟨some 32, .pick (.t 21) (.c (.bool true)) (.t 31), some (10, true)⟩, ⟨some 33, .pick (.t 10) (.t 32) (.c (.bool false)), none⟩])
    (.cond (.t 33) (.skip)
     (.exit 0)))
    (.block 1 (.ops false [⟨some 34, .mv (.t 3), none⟩, ⟨some 35, .slice 1 (.t 34) (some (.c (.int .i64 1))) none none, none⟩, ⟨some 3, .mv (.t 35), none⟩])))))
  (.seq (.ops false [⟨some 36, .mv (.t 3), none⟩, ⟨some 2, .mv (.t 36), none⟩])
  (.ret)))),
  [.t 2]⟩

/- (*noria/noriaref03.W).bytes -/
def d_noriaref03_W_bytes : DFun := ⟨
  .seq (.ops false [⟨some 4, .mv (.t 0), none⟩, ⟨some 5, .nilck (.t 4), none⟩, ⟨some 6, .faddr 1 (.t 5), none⟩, ⟨some 7, .load none (.t 6), none⟩, ⟨some 8, .un .not (.t 7), none⟩])
  (.cond (.t 8) (.ops false [⟨some 9, .mv (.t 0), none⟩, ⟨some 10, .mv (.t 0), none⟩, ⟨some 11, .nilck (.t 10), none⟩, ⟨some 12, .faddr 0 (.t 11), none⟩, ⟨some 13, .load none (.t 12), none⟩, ⟨some 14, .mv (.t 1), none⟩, ⟨some 15, .append 1 (.t 13) (.t 14), none⟩, ⟨some 16, .nilck (.t 9), none⟩, ⟨some 17, .faddr 0 (.t 16), none⟩, ⟨none, .store 1 (.t 17) (.t 15), none⟩])
   (.skip)),
  []⟩

/- noria/octet.idle -/
def d_octet_idle : DFun := ⟨
  .seq (.ops false [⟨some 2, .mv (.c (.bool false)), none⟩])
  (.seq (.seq (.ops false [⟨some 4, .mv (.t 0), none⟩, ⟨some 5, .len (.t 4), none⟩, ⟨some 6, .bin .lss (.t 5) (.c (.int .i64 2)), none⟩])
  (.cond (.t 6) (.seq (.ops false [⟨some 2, .mv (.c (.bool false)), none⟩])
   (.ret))
   (.skip)))
  (.seq (.ops false [⟨some 7, .mv (.t 0), none⟩, ⟨some 8, .iaddr 1 (.t 7) (.c (.int .i64 1)), none⟩, ⟨some 9, .load none (.t 8), none⟩, ⟨some 10, .bin .and (.t 9) (.c (.int .u8 128)), none⟩, ⟨some 11, .bin .neq (.t 10) (.c (.int .u8 0)), none⟩, ⟨some 3, .mv (.t 11), none⟩])
  (.seq (.ops false [⟨some 12, .mv (.t 0), none⟩, ⟨some 13, .iaddr 1 (.t 12) (.c (.int .i64 0)), none⟩, ⟨some 14, .load none (.t 13), none⟩, ⟨some 15, .bin .eql (.t 14) (.c (.int .u8 0)), none⟩, ⟨some 16, .mv (.t 15), none⟩, ⟨some 17, .mv (.t 3), some (16, true)⟩, ⟨some 18, .un .not (.t 17), some (16, true)⟩, ⟨some 19, .pick (.t 16) (.t 18) (.c (.bool false)), none⟩, ⟨some 20, .mv (.t 19), none⟩, ⟨some 21, .mv (.t 0), some (20, false)⟩, ⟨some 22, .iaddr 1 (.t 21) (.c (.int .i64 0)), some (20, false)⟩, ⟨some 23, .load none (.t 22), some (20, false)⟩, ⟨some 24, .bin .eql (.t 23) (.c (.int .u8 255)), some (20, false)⟩, ⟨some 25, .mv (.t 24), some (20, false)⟩, ⟨some 26, .mv (.t 3), some (25, true)⟩, ⟨some 27, .pick (.t 25) (.t 26) (.c (.bool false)), some (20, false)⟩, ⟨some 28, .pick (.t 20) (.c (.bool true)) (.t 27), none⟩, ⟨some 2, .mv (.t 28), none⟩])
  (.ret)))),
  [.t 2]⟩

end Go.Proofs.Ytpohoagllmocnaa
