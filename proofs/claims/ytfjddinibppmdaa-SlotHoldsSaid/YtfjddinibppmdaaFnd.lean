/- The data-level reading of the functions. -/
import Derived.Test.YtfjddinibppmdaaNkZ
set_option linter.all false
namespace Go.Proofs.Ytfjddinibppmdaa
open Go.Nk

/- noria/norialaw42.SlotHolds -/
def d_norialaw42_SlotHolds : DFun := ⟨
  .seq (.ops false [⟨some 4, .mv (.c (.bool false)), none⟩])
  (.seq (.seq (.ops false [⟨some 17, .mv (.t 0), none⟩, ⟨some 18, .mv (.t 1), none⟩, ⟨some 19, .callP 6 [(.t 17), (.t 18)], none⟩, ⟨some 20, .un .not (.t 19), none⟩, ⟨some 21, .mv (.t 20), none⟩, ⟨some 22, .mv (.t 0), some (21, false)⟩, ⟨some 23, .len (.t 22), some (21, false)⟩, ⟨some 24, .bin .eql (.t 23) (.c (.int .i64 0)), some (21, false)⟩, ⟨some 25, .pick (.t 21) (.c (.bool true)) (.t 24), none⟩])
  (.cond (.t 25) (.seq (.ops false [⟨some 26, .callP 7 [], none⟩, ⟨some 4, .mv (.t 26), none⟩])
   (.ret))
   (.skip)))
  (.seq (.ops false [⟨some 27, .callH 8 [], none⟩, ⟨some 5, .mv (.t 27), none⟩])
  (.seq (.ops false [⟨some 6, .mv (.c (.int .i64 0)), none⟩])
  (.seq (.seq (.ops false [⟨some 7, .mv (.c (.int .i64 0)), none⟩])
  (.block 0 (.loop [0, 1, 5, 6, 7] none (.seq (.seq (.ops false [⟨some 28, .mv (.t 7), none⟩, ⟨some 29, .mv (.t 0), none⟩, ⟨some 30, .iaddr 6 (.t 29) (.c (.int .i64 0)), none⟩, ⟨some 31, .faddr 3 (.t 30), none⟩, ⟨some 32, .load none (.t 31), none⟩, ⟨some 33, .len (.t 32), none⟩, ⟨some 34, .bin .lss (.t 28) (.t 33), none⟩])
    (.cond (.t 34) (.skip)
     (.exit 0)))
    (.seq (.block 1 (.ops false [⟨some 37, .mv (.t 6), none⟩, ⟨some 38, .mv (.t 0), none⟩, ⟨some 39, .iaddr 6 (.t 38) (.c (.int .i64 0)), none⟩, ⟨some 40, .faddr 3 (.t 39), none⟩, ⟨some 41, .load none (.t 40), none⟩, ⟨some 42, .mv (.t 7), none⟩, ⟨some 43, .iaddr 6 (.t 41) (.t 42), none⟩, ⟨some 44, .faddr 1 (.t 43), none⟩, ⟨some 45, .faddr 2 (.t 44), none⟩, ⟨some 46, .load none (.t 45), none⟩, ⟨some 47, .minmax false (.c (.int .i64 8)) (.t 46), none⟩, ⟨some 48, .minmax true (.c (.int .i64 1)) (.t 47), none⟩, ⟨some 49, .bin .add (.t 37) (.t 48), none⟩, ⟨some 6, .mv (.t 49), none⟩]))
    (.ops false [⟨some 35, .mv (.t 7), none⟩, ⟨some 36, .bin .add (.t 35) (.c (.int .i64 1)), none⟩, ⟨some 7, .mv (.t 36), none⟩]))))))
  (.seq (.seq (.ops true [⟨some 50, .mv (.t 5), none⟩, ⟨some 51, .mv (.t 0), none⟩, ⟨some 52, .im (.iaddr 6 (.t 51) (.c (.int .i64 0))), none⟩, ⟨some 53, .im (.load (some 6) (.t 52)), none⟩, ⟨some 54, .mv (.t 6), none⟩, ⟨some 55, .fz (.make [.int .i64 0] (.t 54) (.t 54)), none⟩, ⟨some 56, .callH 9 [(.t 50), (.t 53), (.t 55)], none⟩, ⟨some 57, .un .not (.t 56), none⟩])
  (.cond (.t 57) (.seq (.ops false [⟨some 4, .mv (.c (.bool false)), none⟩])
   (.ret))
   (.skip)))
  (.seq (.seq (.ops false [⟨some 8, .mv (.c (.int .i64 0)), none⟩])
  (.block 2 (.loop [0, 1, 5, 8] none (.seq (.seq (.ops false [⟨some 58, .mv (.t 8), none⟩, ⟨some 59, .mv (.t 1), none⟩, ⟨some 60, .len (.t 59), none⟩, ⟨some 61, .bin .lss (.t 58) (.t 60), none⟩])
    (.cond (.t 61) (.skip)
     (.exit 2)))
    (.seq (.block 3 (.seq (.ops false [⟨some 64, .mv (.t 1), none⟩, ⟨some 65, .mv (.t 8), none⟩, ⟨some 66, .iaddr 3 (.t 64) (.t 65), none⟩, ⟨some 67, .load (some 3) (.t 66), none⟩, ⟨some 9, .alloc [.int .i64 0, .int .i64 0, .nil], none⟩, ⟨none, .store 3 (.t 9) (.t 67), none⟩])
     (.seq (.ops false [⟨some 69, .mv (.t 5), none⟩, ⟨some 70, .callH 10 [(.t 69)], none⟩, ⟨some 68, .mv (.t 70), none⟩, ⟨some 71, .extract 0 (.t 68), none⟩, ⟨some 72, .extract 1 (.t 68), none⟩, ⟨some 73, .extract 2 (.t 68), none⟩, ⟨some 10, .alloc [.nil, .nil, .nil, .nil, .nil, .nil], none⟩, ⟨none, .store 6 (.t 10) (.t 71), none⟩, ⟨some 11, .mv (.t 72), none⟩, ⟨some 12, .mv (.t 73), none⟩])
     (.seq (.ops false [⟨some 13, .mv (.c (.bool false)), none⟩])
     (.seq (.seq (.ops false [⟨some 74, .faddr 0 (.t 9), none⟩, ⟨some 75, .load none (.t 74), none⟩])
     (.block 4 (.seq (.ops false [⟨some 79, .bin .eql (.t 75) (.c (.int .i64 2)), none⟩, ⟨some 78, .mv (.t 79), none⟩])
      (.cond (.t 78) (.ops false [⟨some 80, .mv (.t 5), none⟩, ⟨some 81, .mv (.t 0), none⟩, ⟨some 82, .faddr 1 (.t 9), none⟩, ⟨some 83, .load none (.t 82), none⟩, ⟨some 84, .callP 12 [(.t 81), (.t 83)], none⟩, ⟨some 85, .callH 11 [(.t 80), (.t 84)], none⟩])
       (.seq (.ops false [⟨some 87, .bin .eql (.t 75) (.c (.int .i64 3)), none⟩, ⟨some 86, .mv (.t 87), none⟩])
       (.cond (.t 86) (.ops false [⟨some 88, .mv (.t 5), none⟩, ⟨some 89, .faddr 2 (.t 9), none⟩, ⟨some 90, .load none (.t 89), none⟩, ⟨some 91, .callH 13 [(.t 88), (.t 90)], none⟩])
        (.seq (.ops false [⟨some 93, .bin .eql (.t 75) (.c (.int .i64 4)), none⟩, ⟨some 92, .mv (.t 93), none⟩])
        (.cond (.t 92) (.ops false [⟨some 94, .mv (.t 5), none⟩, ⟨some 95, .callH 14 [(.t 94)], none⟩, ⟨some 13, .mv (.t 95), none⟩])
         (.ops false [⟨some 76, .mv (.t 5), none⟩, ⟨some 77, .callH 15 [(.t 76)], none⟩])))))))))
     (.seq (.ops false [⟨some 97, .mv (.t 5), none⟩, ⟨some 98, .callH 10 [(.t 97)], none⟩, ⟨some 96, .mv (.t 98), none⟩, ⟨some 99, .extract 0 (.t 96), none⟩, ⟨some 100, .extract 1 (.t 96), none⟩, ⟨some 101, .extract 2 (.t 96), none⟩, ⟨some 14, .alloc [.nil, .nil, .nil, .nil, .nil, .nil], none⟩, ⟨none, .store 6 (.t 14) (.t 99), none⟩, ⟨some 15, .mv (.t 100), none⟩, ⟨some 16, .mv (.t 101), none⟩])
     (.seq (.ops false [⟨some 102, .mv (.t 16), none⟩, ⟨some 103, .un .not (.t 102), none⟩, ⟨some 104, .mv (.t 103), none⟩, ⟨some 105, .mv (.t 13), some (104, false)⟩, ⟨some 106, .un .not (.t 105), some (104, false)⟩, ⟨some 107, .mv (.t 106), some (104, false)⟩, ⟨some 108, .load (some 6) (.t 10), some (107, true)⟩, ⟨some 109, .load (some 6) (.t 14), some (107, true)⟩, ⟨some 110, .callP 16 [(.t 108), (.t 109)], some (107, true)⟩, ⟨some 111, .un .not (.t 110), some (107, true)⟩, ⟨some 112, .mv (.t 111), some (107, true)⟩, ⟨some 113, .mv (.t 15), some (112, false)⟩, ⟨some 114, .mv (.t 11), some (112, false)⟩, ⟨some 115, .callP 17 [(.t 113), (.t 114)], some (112, false)⟩, ⟨some 116, .un .not (.t 115), some (112, false)⟩, ⟨some 117, .pick (.t 112) (.c (.bool true)) (.t 116), some (107, true)⟩, ⟨some 118, .pick (.t 107) (.t 117) (.c (.bool false)), some (104, false)⟩, ⟨some 119, .pick (.t 104) (.c (.bool true)) (.t 118), none⟩])
     (.cond (.t 119) (.seq (.ops false [⟨some 4, .mv (.c (.bool false)), none⟩])
      (.ret))
      (.skip)))))))))
    (.ops false [⟨some 62, .mv (.t 8), none⟩, ⟨some 63, .bin .add (.t 62) (.c (.int .i64 1)), none⟩, ⟨some 8, .mv (.t 63), none⟩]))))))
  (.seq (.ops false [⟨some 120, .callP 7 [], none⟩, ⟨some 4, .mv (.t 120), none⟩])
  (.ret)))))))),
  [.t 4]⟩

/- noria/norialaw42.SlotActs -/
def d_norialaw42_SlotActs : DFun := ⟨
  .seq (.ops false [⟨some 4, .mv (.c (.bool false)), none⟩])
  (.seq (.seq (.ops false [⟨some 11, .mv (.t 0), none⟩, ⟨some 12, .mv (.t 1), none⟩, ⟨some 13, .callP 6 [(.t 11), (.t 12)], none⟩, ⟨some 14, .un .not (.t 13), none⟩])
  (.cond (.t 14) (.seq (.ops false [⟨some 15, .callP 7 [], none⟩, ⟨some 4, .mv (.t 15), none⟩])
   (.ret))
   (.skip)))
  (.seq (.ops false [⟨some 16, .callH 8 [], none⟩, ⟨some 17, .build [.bool false, .sl [], .sl [], .sl [], .sl [], .sl [], .sl [], .sl [], .bool false, .sl [], .sl [], .sl [], .sl [], .sl [], .sl [], .sl [], .int .i64 0] [], none⟩, ⟨some 18, .box (.t 17), none⟩, ⟨some 5, .mv (.t 16), none⟩, ⟨some 6, .mv (.t 18), none⟩])
  (.seq (.seq (.ops false [⟨some 7, .mv (.c (.int .i64 0)), none⟩])
  (.block 0 (.loop [0, 1, 5, 6, 7] none (.seq (.seq (.ops false [⟨some 19, .mv (.t 7), none⟩, ⟨some 20, .mv (.t 1), none⟩, ⟨some 21, .len (.t 20), none⟩, ⟨some 22, .bin .lss (.t 19) (.t 21), none⟩])
    (.cond (.t 22) (.skip)
     (.exit 0)))
    (.seq (.block 1 (.seq (.seq (.ops false [⟨some 25, .mv (.t 5), none⟩, ⟨some 26, .mv (.t 6), none⟩, ⟨some 27, .mv (.t 0), none⟩, ⟨some 28, .mv (.t 1), none⟩, ⟨some 29, .mv (.t 7), none⟩, ⟨some 30, .iaddr 3 (.t 28) (.t 29), none⟩, ⟨some 31, .load (some 3) (.t 30), none⟩, ⟨some 32, .callH 18 [(.t 25), (.t 26), (.t 27), (.t 31)], none⟩, ⟨some 33, .un .not (.t 32), none⟩])
     (.cond (.t 33) (.seq (.ops false [⟨some 4, .mv (.c (.bool false)), none⟩])
      (.ret))
      (.skip)))
     (.seq (.ops false [⟨some 35, .mv (.t 5), none⟩, ⟨some 36, .callH 10 [(.t 35)], none⟩, ⟨some 34, .mv (.t 36), none⟩, ⟨some 37, .extract 0 (.t 34), none⟩, ⟨some 38, .extract 1 (.t 34), none⟩, ⟨some 39, .extract 2 (.t 34), none⟩, ⟨some 8, .alloc [.nil, .nil, .nil, .nil, .nil, .nil], none⟩, ⟨none, .store 6 (.t 8) (.t 37), none⟩, ⟨some 9, .mv (.t 38), none⟩, ⟨some 10, .mv (.t 39), none⟩])
     (.seq (.opsP [(0, ⟨some 40, .mv (.t 10), none⟩), (1, ⟨some 41, .mv (.t 6), none⟩), (2, ⟨some 42, .nilck (.t 41), none⟩), (3, ⟨some 43, .faddr 0 (.t 42), none⟩), (4, ⟨some 44, .load none (.t 43), none⟩), (5, ⟨some 45, .beq true (.t 40) (.t 44), none⟩), (6, ⟨some 46, .mv (.t 45), none⟩), (7, ⟨some 47, .load (some 6) (.t 8), some (46, false)⟩), (8, ⟨some 48, .mv (.t 6), some (46, false)⟩), (9, ⟨some 49, .nilck (.t 48), some (46, false)⟩), (10, ⟨some 50, .faddr 1 (.t 49), some (46, false)⟩), (11, ⟨some 51, .faddr 0 (.t 50), some (46, false)⟩), (12, ⟨some 52, .load (some 6) (.t 51), some (46, false)⟩), (13, ⟨some 53, .rd (.callP 16 [(.t 47), (.t 52)]), some (46, false)⟩), (14, ⟨some 54, .un .not (.t 53), some (46, false)⟩), (15, ⟨some 55, .pick (.t 46) (.c (.bool true)) (.t 54), none⟩), (16, ⟨some 56, .mv (.t 55), none⟩), (17, ⟨some 57, .mv (.t 9), some (56, false)⟩), (18, ⟨some 58, .mv (.t 6), some (56, false)⟩), (19, ⟨some 59, .nilck (.t 58), some (56, false)⟩), (20, ⟨some 60, .faddr 1 (.t 59), some (56, false)⟩), (21, ⟨some 61, .faddr 6 (.t 60), some (56, false)⟩), (22, ⟨some 62, .load none (.t 61), some (56, false)⟩), (23, ⟨some 63, .rd (.callP 17 [(.t 57), (.t 62)]), some (56, false)⟩), (24, ⟨some 64, .un .not (.t 63), some (56, false)⟩), (25, ⟨some 65, .pick (.t 56) (.c (.bool true)) (.t 64), none⟩), (26, ⟨some 66, .mv (.t 65), none⟩), (27, ⟨some 67, .mv (.t 5), some (66, false)⟩), (29, ⟨some 69, .mv (.t 6), some (66, false)⟩), (28, ⟨some 68, .rd (.callH 19 [(.t 67)]), some (66, false)⟩), (30, ⟨some 70, .rd (.callH 20 [(.t 69)]), some (66, false)⟩), (31, ⟨some 71, .bin .neq (.t 68) (.t 70), some (66, false)⟩), (32, ⟨some 72, .pick (.t 66) (.c (.bool true)) (.t 71), none⟩), (33, ⟨some 73, .mv (.t 72), none⟩), (34, ⟨some 74, .mv (.t 5), some (73, false)⟩), (36, ⟨some 76, .mv (.t 6), some (73, false)⟩), (37, ⟨some 77, .nilck (.t 76), some (73, false)⟩), (38, ⟨some 78, .faddr 16 (.t 77), some (73, false)⟩), (39, ⟨some 79, .load none (.t 78), some (73, false)⟩), (35, ⟨some 75, .rd (.callH 21 [(.t 74)]), some (73, false)⟩), (40, ⟨some 80, .bin .neq (.t 75) (.t 79), some (73, false)⟩), (41, ⟨some 81, .pick (.t 73) (.c (.bool true)) (.t 80), none⟩)])
     (.cond (.t 81) (.seq (.ops false [⟨some 4, .mv (.c (.bool false)), none⟩])
      (.ret))
      (.skip))))))
    (.ops false [⟨some 23, .mv (.t 7), none⟩, ⟨some 24, .bin .add (.t 23) (.c (.int .i64 1)), none⟩, ⟨some 7, .mv (.t 24), none⟩]))))))
  (.seq (.ops false [⟨some 82, .callP 7 [], none⟩, ⟨some 4, .mv (.t 82), none⟩])
  (.ret))))),
  [.t 4]⟩

/- noria/norialaw42.SlotNobody -/
def d_norialaw42_SlotNobody : DFun := ⟨
  .seq (.ops false [⟨some 2, .bref (.t 0), none⟩, ⟨some 4, .mv (.c (.bool false)), none⟩])
  (.seq (.seq (.ops false [⟨some 13, .load (some 6) (.t 2), none⟩, ⟨some 14, .callP 22 [(.t 13)], none⟩, ⟨some 15, .un .not (.t 14), none⟩, ⟨some 16, .mv (.t 15), none⟩, ⟨some 17, .mv (.t 1), some (16, false)⟩, ⟨some 18, .len (.t 17), some (16, false)⟩, ⟨some 19, .bin .gtr (.t 18) (.c (.int .i64 1200)), some (16, false)⟩, ⟨some 20, .pick (.t 16) (.c (.bool true)) (.t 19), none⟩])
  (.cond (.t 20) (.seq (.ops false [⟨some 21, .callP 7 [], none⟩, ⟨some 4, .mv (.t 21), none⟩])
   (.ret))
   (.skip)))
  (.seq (.ops false [⟨some 5, .mv (.c (.nilp)), none⟩])
  (.seq (.ops false [⟨some 22, .build [.bool false, .bool false, .sl [], .sl [], .sl [], .sl [], .sl [], .sl [], .nil, .bool false, .sl [], .sl [], .sl [], .sl [], .sl [], .sl [], .nil, .int .i64 0, .int .i64 0] [], none⟩, ⟨some 23, .box (.t 22), none⟩, ⟨some 6, .mv (.t 23), none⟩])
  (.seq (.ops false [⟨some 24, .mv (.t 5), none⟩, ⟨some 25, .callH 15 [(.t 24)], none⟩])
  (.seq (.ops false [⟨some 26, .mv (.t 6), none⟩, ⟨some 27, .callH 15 [(.t 26)], none⟩])
  (.seq (.ops false [⟨some 29, .mv (.t 5), none⟩, ⟨some 30, .callH 10 [(.t 29)], none⟩, ⟨some 28, .mv (.t 30), none⟩, ⟨some 31, .extract 0 (.t 28), none⟩, ⟨some 32, .extract 1 (.t 28), none⟩, ⟨some 33, .extract 2 (.t 28), none⟩, ⟨some 7, .alloc [.nil, .nil, .nil, .nil, .nil, .nil], none⟩, ⟨none, .store 6 (.t 7) (.t 31), none⟩, ⟨some 8, .mv (.t 32), none⟩, ⟨some 9, .mv (.t 33), none⟩])
  (.seq (.ops false [⟨some 35, .mv (.t 6), none⟩, ⟨some 36, .callH 10 [(.t 35)], none⟩, ⟨some 34, .mv (.t 36), none⟩, ⟨some 37, .extract 0 (.t 34), none⟩, ⟨some 38, .extract 1 (.t 34), none⟩, ⟨some 39, .extract 2 (.t 34), none⟩, ⟨some 10, .alloc [.nil, .nil, .nil, .nil, .nil, .nil], none⟩, ⟨none, .store 6 (.t 10) (.t 37), none⟩, ⟨some 11, .mv (.t 38), none⟩, ⟨some 12, .mv (.t 39), none⟩])
  (.seq (.seq (.ops false [⟨some 40, .mv (.t 9), none⟩, ⟨some 41, .mv (.t 40), none⟩, ⟨some 42, .mv (.t 12), some (41, false)⟩, ⟨some 43, .pick (.t 41) (.c (.bool true)) (.t 42), none⟩, ⟨some 44, .mv (.t 43), none⟩, ⟨some 45, .mv (.t 8), some (44, false)⟩, ⟨some 46, .len (.t 45), some (44, false)⟩, ⟨some 47, .bin .neq (.t 46) (.c (.int .i64 0)), some (44, false)⟩, ⟨some 48, .pick (.t 44) (.c (.bool true)) (.t 47), none⟩, ⟨some 49, .mv (.t 48), none⟩, ⟨some 50, .mv (.t 11), some (49, false)⟩, ⟨some 51, .len (.t 50), some (49, false)⟩, ⟨some 52, .bin .neq (.t 51) (.c (.int .i64 0)), some (49, false)⟩, ⟨some 53, .pick (.t 49) (.c (.bool true)) (.t 52), none⟩, ⟨some 54, .mv (.t 53), none⟩, ⟨some 55, .mv (.t 5), some (54, false)⟩, ⟨some 56, .load (some 6) (.t 2), some (54, false)⟩, ⟨some 57, .mv (.t 1), some (54, false)⟩, ⟨some 58, .callH 9 [(.t 55), (.t 56), (.t 57)], some (54, false)⟩, ⟨some 59, .pick (.t 54) (.c (.bool true)) (.t 58), none⟩, ⟨some 60, .mv (.t 59), none⟩, ⟨some 61, .mv (.t 6), some (60, false)⟩, ⟨some 62, .load (some 6) (.t 2), some (60, false)⟩, ⟨some 63, .mv (.t 1), some (60, false)⟩, ⟨some 64, .callH 9 [(.t 61), (.t 62), (.t 63)], some (60, false)⟩, ⟨some 65, .pick (.t 60) (.c (.bool true)) (.t 64), none⟩, ⟨some 66, .mv (.t 65), none⟩, ⟨some 67, .mv (.t 5), some (66, false)⟩, ⟨some 68, .mv (.t 1), some (66, false)⟩, ⟨some 69, .callH 23 [(.t 67), (.t 68)], some (66, false)⟩, ⟨some 70, .pick (.t 66) (.c (.bool true)) (.t 69), none⟩, ⟨some 71, .mv (.t 70), none⟩, ⟨some 72, .mv (.t 6), some (71, false)⟩, ⟨some 73, .mv (.t 1), some (71, false)⟩, ⟨some 74, .callH 23 [(.t 72), (.t 73)], some (71, false)⟩, ⟨some 75, .pick (.t 71) (.c (.bool true)) (.t 74), none⟩, ⟨some 76, .mv (.t 75), none⟩, ⟨some 77, .mv (.t 5), some (76, false)⟩, ⟨some 78, .load (some 6) (.t 2), some (76, false)⟩, ⟨some 79, .callH 11 [(.t 77), (.t 78)], some (76, false)⟩, ⟨some 80, .pick (.t 76) (.c (.bool true)) (.t 79), none⟩, ⟨some 81, .mv (.t 80), none⟩, ⟨some 82, .mv (.t 6), some (81, false)⟩, ⟨some 83, .load (some 6) (.t 2), some (81, false)⟩, ⟨some 84, .callH 11 [(.t 82), (.t 83)], some (81, false)⟩, ⟨some 85, .pick (.t 81) (.c (.bool true)) (.t 84), none⟩])
  (.cond (.t 85) (.seq (.ops false [⟨some 4, .mv (.c (.bool false)), none⟩])
   (.ret))
   (.skip)))
  (.seq (.ops false [⟨some 86, .mv (.t 5), none⟩, ⟨some 87, .mv (.t 1), none⟩, ⟨some 88, .callH 13 [(.t 86), (.t 87)], none⟩, ⟨some 89, .un .not (.t 88), none⟩, ⟨some 90, .mv (.t 89), none⟩, ⟨some 91, .mv (.t 6), some (90, true)⟩, ⟨some 92, .mv (.t 1), some (90, true)⟩, ⟨some 93, .callH 13 [(.t 91), (.t 92)], some (90, true)⟩, ⟨some 94, .un .not (.t 93), some (90, true)⟩, ⟨some 95, .pick (.t 90) (.t 94) (.c (.bool false)), none⟩, ⟨some 96, .mv (.t 95), none⟩, ⟨some 97, .mv (.t 5), some (96, true)⟩, ⟨some 98, .callH 14 [(.t 97)], some (96, true)⟩, ⟨some 99, .un .not (.t 98), some (96, true)⟩, ⟨some 100, .pick (.t 96) (.t 99) (.c (.bool false)), none⟩, ⟨some 101, .mv (.t 100), none⟩, ⟨some 102, .mv (.t 6), some (101, true)⟩, ⟨some 103, .callH 14 [(.t 102)], some (101, true)⟩, ⟨some 104, .un .not (.t 103), some (101, true)⟩, ⟨some 105, .pick (.t 101) (.t 104) (.c (.bool false)), none⟩, ⟨some 106, .mv (.t 105), none⟩, ⟨some 107, .mv (.t 5), some (106, true)⟩, ⟨some 108, .callH 19 [(.t 107)], some (106, true)⟩, ⟨some 109, .bin .eql (.t 108) (.c (.int .i64 (-1))), some (106, true)⟩, ⟨some 110, .pick (.t 106) (.t 109) (.c (.bool false)), none⟩, ⟨some 111, .mv (.t 110), none⟩, ⟨some 112, .mv (.t 6), some (111, true)⟩, ⟨some 113, .callH 19 [(.t 112)], some (111, true)⟩, ⟨some 114, .bin .eql (.t 113) (.c (.int .i64 (-1))), some (111, true)⟩, ⟨some 115, .pick (.t 111) (.t 114) (.c (.bool false)), none⟩, ⟨some 116, .mv (.t 115), none⟩, ⟨some 117, .mv (.t 5), some (116, true)⟩, ⟨some 118, .callH 21 [(.t 117)], some (116, true)⟩, ⟨some 119, .bin .eql (.t 118) (.c (.int .i64 0)), some (116, true)⟩, ⟨some 120, .pick (.t 116) (.t 119) (.c (.bool false)), none⟩, ⟨some 121, .mv (.t 120), none⟩, ⟨some 122, .mv (.t 6), some (121, true)⟩, ⟨some 123, .callH 21 [(.t 122)], some (121, true)⟩, ⟨some 124, .bin .eql (.t 123) (.c (.int .i64 0)), some (121, true)⟩, ⟨some 125, .pick (.t 121) (.t 124) (.c (.bool false)), none⟩, ⟨some 126, .mv (.t 125), none⟩, ⟨some 127, .callP 7 [], some (126, true)⟩, ⟨some 128, .pick (.t 126) (.t 127) (.c (.bool false)), none⟩, ⟨some 4, .mv (.t 128), none⟩])
  (.ret)))))))))),
  [.t 4]⟩

/- noria/norialaw42.few -/
def d_norialaw42_few : DFun := ⟨
  .seq (.ops false [⟨some 4, .mv (.c (.bool false)), none⟩])
  (.seq (.seq (.ops false [⟨some 5, .mv (.c (.int .i64 0)), none⟩])
  (.block 0 (.loop [0, 1, 5] (some 0) (.seq (.seq (.ops false [⟨some 7, .mv (.t 5), none⟩, ⟨some 8, .mv (.t 0), none⟩, ⟨some 9, .len (.t 8), none⟩, ⟨some 10, .bin .lss (.t 7) (.t 9), none⟩, ⟨some 11, .mv (.t 10), none⟩, ⟨some 12, .mv (.t 5), some (11, true)⟩, ⟨some 13, .bin .lss (.t 12) (.c (.int .i64 10)), some (11, true)⟩, ⟨some 14, .pick (.t 11) (.t 13) (.c (.bool false)), none⟩])
    (.cond (.t 14) (.skip)
     (.exit 0)))
    (.seq (.block 1 (.seq (.ops false [⟨some 17, .mv (.t 0), none⟩, ⟨some 18, .mv (.t 5), none⟩, ⟨some 19, .iaddr 6 (.t 17) (.t 18), none⟩, ⟨some 20, .load (some 6) (.t 19), none⟩, ⟨some 21, .callP 22 [(.t 20)], none⟩, ⟨some 22, .un .not (.t 21), none⟩])
     (.cond (.t 22) (.seq (.ops false [⟨some 4, .mv (.c (.bool false)), none⟩])
      (.ret))
      (.skip))))
    (.ops false [⟨some 15, .mv (.t 5), none⟩, ⟨some 16, .bin .add (.t 15) (.c (.int .i64 1)), none⟩, ⟨some 5, .mv (.t 16), none⟩]))))))
  (.seq (.seq (.ops false [⟨some 6, .mv (.c (.int .i64 0)), none⟩])
  (.block 2 (.loop [0, 1, 6] (some 0) (.seq (.seq (.ops false [⟨some 23, .mv (.t 6), none⟩, ⟨some 24, .mv (.t 1), none⟩, ⟨some 25, .len (.t 24), none⟩, ⟨some 26, .bin .lss (.t 23) (.t 25), none⟩, ⟨some 27, .mv (.t 26), none⟩, ⟨some 28, .mv (.t 6), some (27, true)⟩, ⟨some 29, .bin .lss (.t 28) (.c (.int .i64 80)), some (27, true)⟩, ⟨some 30, .pick (.t 27) (.t 29) (.c (.bool false)), none⟩])
    (.cond (.t 30) (.skip)
     (.exit 2)))
    (.seq (.block 3 (.seq (.ops false [⟨some 33, .mv (.t 1), none⟩, ⟨some 34, .mv (.t 6), none⟩, ⟨some 35, .iaddr 3 (.t 33) (.t 34), none⟩, ⟨some 36, .faddr 2 (.t 35), none⟩, ⟨some 37, .load none (.t 36), none⟩, ⟨some 38, .len (.t 37), none⟩, ⟨some 39, .bin .gtr (.t 38) (.c (.int .i64 1200)), none⟩])
     (.cond (.t 39) (.seq (.ops false [⟨some 4, .mv (.c (.bool false)), none⟩])
      (.ret))
      (.skip))))
    (.ops false [⟨some 31, .mv (.t 6), none⟩, ⟨some 32, .bin .add (.t 31) (.c (.int .i64 1)), none⟩, ⟨some 6, .mv (.t 32), none⟩]))))))
  (.seq (.ops false [⟨some 40, .mv (.t 0), none⟩, ⟨some 41, .len (.t 40), none⟩, ⟨some 42, .bin .leq (.t 41) (.c (.int .i64 8)), none⟩, ⟨some 43, .mv (.t 42), none⟩, ⟨some 44, .mv (.t 1), some (43, true)⟩, ⟨some 45, .len (.t 44), some (43, true)⟩, ⟨some 46, .bin .leq (.t 45) (.c (.int .i64 60)), some (43, true)⟩, ⟨some 47, .pick (.t 43) (.t 46) (.c (.bool false)), none⟩, ⟨some 4, .mv (.t 47), none⟩])
  (.ret)))),
  [.t 4]⟩

/- noria/norialaw42.live -/
def d_norialaw42_live : DFun := ⟨
  .seq (.ops false [⟨some 0, .mv (.c (.bool false)), none⟩])
  (.seq (.ops false [⟨some 7, .build [.int .i64 0, .int .i64 0, .int .i64 0] [(0, 1, (.c (.int .i64 1)))], none⟩, ⟨some 8, .build [.str [], .int .i64 0, .int .i64 0, .int .i64 0, .int .i64 0, .sl []] [(0, 1, (.c (.str [97]))), (1, 3, (.t 7))], none⟩, ⟨some 9, .bslice true [.str [], .int .i64 0, .int .i64 0, .int .i64 0, .int .i64 0, .nil] [(some (.t 8))], none⟩, ⟨some 10, .build [.sl [], .sl [], .sl [], .sl [], .sl [], .sl []] [(3, 1, (.t 9))], none⟩, ⟨some 1, .alloc [.nil, .nil, .nil, .nil, .nil, .nil], none⟩, ⟨none, .store 6 (.t 1) (.t 10), none⟩])
  (.seq (.ops false [⟨some 11, .callH 8 [], none⟩, ⟨some 2, .mv (.t 11), none⟩])
  (.seq (.ops false [⟨some 12, .mv (.t 2), none⟩, ⟨some 13, .load (some 6) (.t 1), none⟩, ⟨some 14, .bslice true [.int .i64 0] [(some (.c (.int .i64 1)))], none⟩, ⟨some 15, .callH 9 [(.t 12), (.t 13), (.t 14)], none⟩, ⟨some 16, .mv (.t 15), none⟩, ⟨some 17, .mv (.t 2), some (16, true)⟩, ⟨some 18, .load (some 6) (.t 1), some (16, true)⟩, ⟨some 19, .callH 11 [(.t 17), (.t 18)], some (16, true)⟩, ⟨some 20, .pick (.t 16) (.t 19) (.c (.bool false)), none⟩, ⟨some 21, .mv (.t 20), none⟩, ⟨some 22, .mv (.t 2), some (21, true)⟩, ⟨some 23, .bslice true [.int .i64 0] [(some (.c (.int .i64 2)))], some (21, true)⟩, ⟨some 24, .callH 13 [(.t 22), (.t 23)], some (21, true)⟩, ⟨some 25, .pick (.t 21) (.t 24) (.c (.bool false)), none⟩, ⟨some 26, .mv (.t 25), none⟩, ⟨some 27, .mv (.t 2), some (26, true)⟩, ⟨some 28, .callH 14 [(.t 27)], some (26, true)⟩, ⟨some 29, .pick (.t 26) (.t 28) (.c (.bool false)), none⟩, ⟨some 3, .mv (.t 29), none⟩])
  (.seq (.ops false [⟨some 31, .mv (.t 2), none⟩, ⟨some 32, .callH 10 [(.t 31)], none⟩, ⟨some 30, .mv (.t 32), none⟩, ⟨some 33, .extract 0 (.t 30), none⟩, ⟨some 34, .extract 1 (.t 30), none⟩, ⟨some 35, .extract 2 (.t 30), none⟩, ⟨some 4, .alloc [.nil, .nil, .nil, .nil, .nil, .nil], none⟩, ⟨none, .store 6 (.t 4) (.t 33), none⟩, ⟨some 5, .mv (.t 34), none⟩, ⟨some 6, .mv (.t 35), none⟩])
  (.seq (.ops false [⟨some 36, .mv (.t 3), none⟩, ⟨some 37, .mv (.t 36), none⟩, ⟨some 38, .mv (.t 6), some (37, true)⟩, ⟨some 39, .pick (.t 37) (.t 38) (.c (.bool false)), none⟩, ⟨some 40, .mv (.t 39), none⟩, ⟨some 41, .mv (.t 5), some (40, true)⟩, ⟨some 42, .bslice true [.int .i64 0] [(some (.c (.int .i64 2)))], some (40, true)⟩, ⟨some 43, .callP 17 [(.t 41), (.t 42)], some (40, true)⟩, ⟨some 44, .pick (.t 40) (.t 43) (.c (.bool false)), none⟩, ⟨some 45, .mv (.t 44), none⟩, ⟨some 46, .mv (.t 2), some (45, true)⟩, ⟨some 47, .callH 14 [(.t 46)], some (45, true)⟩, ⟨some 48, .pick (.t 45) (.t 47) (.c (.bool false)), none⟩, ⟨some 49, .mv (.t 48), none⟩, ⟨some 50, .mv (.t 2), some (49, true)⟩, ⟨some 51, .callH 21 [(.t 50)], some (49, true)⟩, ⟨some 52, .bin .eql (.t 51) (.c (.int .i64 2)), some (49, true)⟩, ⟨some 53, .pick (.t 49) (.t 52) (.c (.bool false)), none⟩, ⟨some 0, .mv (.t 53), none⟩])
  (.ret)))))),
  [.t 0]⟩

/- noria/slot.New -/
def d_slot_New : DFun := ⟨
  .seq (.ops false [⟨some 0, .mv (.c (.nilp)), none⟩])
  (.seq (.ops false [⟨some 1, .build [.bool false, .bool false, .sl [], .sl [], .sl [], .sl [], .sl [], .sl [], .nil, .bool false, .sl [], .sl [], .sl [], .sl [], .sl [], .sl [], .nil, .int .i64 0, .int .i64 0] [(0, 1, (.c (.bool true)))], none⟩, ⟨some 2, .box (.t 1), none⟩, ⟨some 0, .mv (.t 2), none⟩])
  (.ret)),
  [.t 0]⟩

/- (*noria/slot.Store).Load -/
def d_slot_Store_Load : DFun := ⟨
  .seq (.ops false [⟨some 4, .bref (.t 1), none⟩, ⟨some 6, .mv (.c (.bool false)), none⟩])
  (.seq (.ops false [⟨some 8, .load (some 6) (.t 4), none⟩, ⟨some 9, .mv (.t 2), none⟩, ⟨some 10, .callH 24 [(.t 8), (.t 9)], none⟩, ⟨some 7, .alloc [.bool false, .nil, .nil, .nil, .nil, .nil, .nil, .nil], none⟩, ⟨none, .store 8 (.t 7) (.t 10), none⟩])
  (.seq (.seq (.ops false [⟨some 11, .mv (.t 0), none⟩, ⟨some 12, .callH 25 [(.t 11)], none⟩, ⟨some 13, .un .not (.t 12), none⟩, ⟨some 14, .mv (.t 13), none⟩, ⟨some 15, .load (some 8) (.t 7), some (14, false)⟩, ⟨some 16, .callP 26 [(.t 15)], some (14, false)⟩, ⟨some 17, .bin .neq (.t 16) (.c (.int .i64 0)), some (14, false)⟩, ⟨some 18, .pick (.t 14) (.c (.bool true)) (.t 17), none⟩])
  (.cond (.t 18) (.seq (.ops false [⟨some 6, .mv (.c (.bool false)), none⟩])
   (.ret))
   (.skip)))
  (.seq (.opsP [(0, ⟨some 19, .mv (.t 0), none⟩), (2, ⟨some 21, .load (some 8) (.t 7), none⟩), (1, ⟨some 20, .rd (.callH 27 [(.t 19)]), none⟩), (3, ⟨some 22, .nilck (.t 20), none⟩), (4, ⟨none, .store 8 (.t 22) (.t 21), none⟩)])
  (.seq (.ops false [⟨some 23, .mv (.t 0), none⟩, ⟨some 24, .callH 15 [(.t 23)], none⟩])
  (.seq (.ops false [⟨some 6, .mv (.c (.bool true)), none⟩])
  (.ret)))))),
  [.t 6]⟩

/- (*noria/slot.Store).Active -/
def d_slot_Store_Active : DFun := ⟨
  .seq (.ops false [⟨some 2, .alloc [.sl [], .sl [], .sl [], .sl [], .sl [], .sl []], none⟩, ⟨some 3, .mv (.c (.nil)), none⟩, ⟨some 4, .mv (.c (.bool false)), none⟩])
  (.seq (.seq (.ops false [⟨some 5, .mv (.t 0), none⟩, ⟨some 6, .callH 25 [(.t 5)], none⟩, ⟨some 7, .un .not (.t 6), none⟩, ⟨some 8, .mv (.t 7), none⟩, ⟨some 9, .mv (.t 0), some (8, false)⟩, ⟨some 10, .callH 27 [(.t 9)], some (8, false)⟩, ⟨some 11, .nilck (.t 10), some (8, false)⟩, ⟨some 12, .faddr 0 (.t 11), some (8, false)⟩, ⟨some 13, .load none (.t 12), some (8, false)⟩, ⟨some 14, .un .not (.t 13), some (8, false)⟩, ⟨some 15, .pick (.t 8) (.c (.bool true)) (.t 14), none⟩])
  (.cond (.t 15) (.seq (.ops false [⟨some 16, .build [.sl [], .sl [], .sl [], .sl [], .sl [], .sl []] [], none⟩, ⟨none, .store 6 (.t 2) (.t 16), none⟩, ⟨some 3, .mv (.c (.nil)), none⟩, ⟨some 4, .mv (.c (.bool false)), none⟩])
   (.ret))
   (.skip)))
  (.seq (.opsP [(0, ⟨some 17, .mv (.t 0), none⟩), (5, ⟨some 22, .mv (.t 0), none⟩), (1, ⟨some 18, .rd (.callH 27 [(.t 17)]), none⟩), (2, ⟨some 19, .nilck (.t 18), none⟩), (3, ⟨some 20, .faddr 1 (.t 19), none⟩), (4, ⟨some 21, .load (some 6) (.t 20), none⟩), (6, ⟨some 23, .rd (.callH 27 [(.t 22)]), none⟩), (7, ⟨some 24, .nilck (.t 23), none⟩), (8, ⟨some 25, .faddr 7 (.t 24), none⟩), (9, ⟨some 26, .load none (.t 25), none⟩), (10, ⟨some 27, .al (.callH 28 [(.t 26)]), none⟩), (11, ⟨none, .store 6 (.t 2) (.t 21), none⟩), (12, ⟨some 3, .mv (.t 27), none⟩), (13, ⟨some 4, .mv (.c (.bool true)), none⟩)])
  (.ret))),
  [.cell 2 (some 6), .t 3, .t 4]⟩

/- (*noria/slot.Store).Stage -/
def d_slot_Store_Stage : DFun := ⟨
  .seq (.ops false [⟨some 3, .bref (.t 1), none⟩, ⟨some 4, .mv (.c (.bool false)), none⟩])
  (.seq (.seq (.ops false [⟨some 5, .mv (.t 0), none⟩, ⟨some 6, .callH 25 [(.t 5)], none⟩, ⟨some 7, .un .not (.t 6), none⟩, ⟨some 8, .mv (.t 7), none⟩, ⟨some 9, .mv (.t 0), some (8, false)⟩, ⟨some 10, .callH 27 [(.t 9)], some (8, false)⟩, ⟨some 11, .nilck (.t 10), some (8, false)⟩, ⟨some 12, .faddr 0 (.t 11), some (8, false)⟩, ⟨some 13, .load none (.t 12), some (8, false)⟩, ⟨some 14, .un .not (.t 13), some (8, false)⟩, ⟨some 15, .pick (.t 8) (.c (.bool true)) (.t 14), none⟩])
  (.cond (.t 15) (.seq (.ops false [⟨some 4, .mv (.c (.bool false)), none⟩])
   (.ret))
   (.skip)))
  (.seq (.opsP [(0, ⟨some 16, .mv (.t 0), none⟩), (2, ⟨some 18, .im (.load (some 6) (.t 3)), none⟩), (1, ⟨some 17, .rd (.callH 29 [(.t 16)]), none⟩), (3, ⟨some 19, .al (.callH 24 [(.t 18), (.c (.nil))]), none⟩), (4, ⟨some 20, .nilck (.t 17), none⟩), (5, ⟨none, .store 8 (.t 20) (.t 19), none⟩)])
  (.seq (.ops false [⟨some 4, .mv (.c (.bool true)), none⟩])
  (.ret)))),
  [.t 4]⟩

/- noria/norialaw42.of -/
def d_norialaw42_of : DFun := ⟨
  .seq (.ops false [⟨some 4, .alloc [.nil, .nil, .nil, .nil, .nil, .nil], none⟩])
  (.seq (.seq (.ops false [⟨some 5, .mv (.t 1), none⟩, ⟨some 6, .bin .lss (.t 5) (.c (.int .i64 0)), none⟩, ⟨some 7, .mv (.t 6), none⟩, ⟨some 8, .mv (.t 1), some (7, false)⟩, ⟨some 9, .mv (.t 0), some (7, false)⟩, ⟨some 10, .len (.t 9), some (7, false)⟩, ⟨some 11, .bin .geq (.t 8) (.t 10), some (7, false)⟩, ⟨some 12, .pick (.t 7) (.c (.bool true)) (.t 11), none⟩])
  (.cond (.t 12) (.seq (.ops false [⟨some 13, .build [.sl [], .sl [], .sl [], .sl [], .sl [], .sl []] [], none⟩, ⟨none, .store 6 (.t 4) (.t 13), none⟩])
   (.ret))
   (.skip)))
  (.seq (.ops false [⟨some 14, .mv (.t 0), none⟩, ⟨some 15, .mv (.t 1), none⟩, ⟨some 16, .iaddr 6 (.t 14) (.t 15), none⟩, ⟨some 17, .load (some 6) (.t 16), none⟩, ⟨none, .store 6 (.t 4) (.t 17), none⟩])
  (.ret))),
  [.cell 4 (some 6)]⟩

/- (*noria/slot.Store).Write -/
def d_slot_Store_Write : DFun := ⟨
  .seq (.ops false [⟨some 4, .mv (.c (.bool false)), none⟩])
  (.seq (.seq (.ops false [⟨some 6, .mv (.t 0), none⟩, ⟨some 7, .callH 25 [(.t 6)], none⟩, ⟨some 8, .un .not (.t 7), none⟩, ⟨some 9, .mv (.t 8), none⟩, ⟨some 10, .mv (.t 0), some (9, false)⟩, ⟨some 11, .callH 29 [(.t 10)], some (9, false)⟩, ⟨some 12, .nilck (.t 11), some (9, false)⟩, ⟨some 13, .faddr 0 (.t 12), some (9, false)⟩, ⟨some 14, .load none (.t 13), some (9, false)⟩, ⟨some 15, .un .not (.t 14), some (9, false)⟩, ⟨some 16, .pick (.t 9) (.c (.bool true)) (.t 15), none⟩, ⟨some 17, .mv (.t 16), none⟩, ⟨some 18, .mv (.t 1), some (17, false)⟩, ⟨some 19, .len (.t 18), some (17, false)⟩, ⟨some 20, .mv (.t 0), some (17, false)⟩, ⟨some 21, .callH 29 [(.t 20)], some (17, false)⟩, ⟨some 22, .nilck (.t 21), some (17, false)⟩, ⟨some 23, .load (some 8) (.t 22), some (17, false)⟩, ⟨some 24, .callP 26 [(.t 23)], some (17, false)⟩, ⟨some 25, .bin .gtr (.t 19) (.t 24), some (17, false)⟩, ⟨some 26, .pick (.t 17) (.c (.bool true)) (.t 25), none⟩])
  (.cond (.t 26) (.seq (.ops false [⟨some 4, .mv (.c (.bool false)), none⟩])
   (.ret))
   (.skip)))
  (.seq (.ops false [⟨some 27, .mv (.t 0), none⟩, ⟨some 28, .callH 29 [(.t 27)], none⟩, ⟨some 5, .mv (.t 28), none⟩])
  (.seq (.ops false [⟨some 29, .mv (.t 5), none⟩, ⟨some 30, .mv (.t 5), none⟩, ⟨some 31, .nilck (.t 30), none⟩, ⟨some 32, .faddr 7 (.t 31), none⟩, ⟨some 33, .load none (.t 32), none⟩, ⟨some 34, .mv (.t 1), none⟩, ⟨some 35, .append 1 (.t 33) (.t 34), none⟩, ⟨some 36, .nilck (.t 29), none⟩, ⟨some 37, .faddr 7 (.t 36), none⟩, ⟨none, .store 1 (.t 37) (.t 35), none⟩])
  (.seq (.ops false [⟨some 4, .mv (.c (.bool true)), none⟩])
  (.ret))))),
  [.t 4]⟩

/- (*noria/slot.Store).Commit -/
def d_slot_Store_Commit : DFun := ⟨
  .seq (.ops false [⟨some 2, .mv (.c (.bool false)), none⟩])
  (.seq (.seq (.ops false [⟨some 3, .mv (.t 0), none⟩, ⟨some 4, .callH 25 [(.t 3)], none⟩, ⟨some 5, .un .not (.t 4), none⟩, ⟨some 6, .mv (.t 5), none⟩, ⟨some 7, .mv (.t 0), some (6, false)⟩, ⟨some 8, .callH 29 [(.t 7)], some (6, false)⟩, ⟨some 9, .nilck (.t 8), some (6, false)⟩, ⟨some 10, .faddr 0 (.t 9), some (6, false)⟩, ⟨some 11, .load none (.t 10), some (6, false)⟩, ⟨some 12, .un .not (.t 11), some (6, false)⟩, ⟨some 13, .pick (.t 6) (.c (.bool true)) (.t 12), none⟩, ⟨some 14, .mv (.t 13), none⟩, ⟨some 15, .mv (.t 0), some (14, false)⟩, ⟨some 16, .callH 29 [(.t 15)], some (14, false)⟩, ⟨some 17, .nilck (.t 16), some (14, false)⟩, ⟨some 18, .load (some 8) (.t 17), some (14, false)⟩, ⟨some 19, .callP 26 [(.t 18)], some (14, false)⟩, ⟨some 20, .bin .neq (.t 19) (.c (.int .i64 0)), some (14, false)⟩, ⟨some 21, .pick (.t 14) (.c (.bool true)) (.t 20), none⟩])
  (.cond (.t 21) (.seq (.ops false [⟨some 2, .mv (.c (.bool false)), none⟩])
   (.ret))
   (.skip)))
  (.seq (.ops true [⟨some 22, .mv (.t 0), none⟩, ⟨some 23, .nilck (.t 22), none⟩, ⟨some 24, .faddr 17 (.t 23), none⟩, ⟨some 25, .mv (.t 0), none⟩, ⟨some 26, .nilck (.t 25), none⟩, ⟨some 27, .faddr 17 (.t 26), none⟩, ⟨some 28, .rd (.callH 31 [(.t 27)]), none⟩, ⟨some 29, .bin .sub (.c (.int .i64 1)) (.t 28), none⟩, ⟨some 30, .callH 30 [(.t 24), (.t 29)], none⟩])
  (.seq (.ops false [⟨some 31, .mv (.t 0), none⟩, ⟨some 32, .nilck (.t 31), none⟩, ⟨some 33, .faddr 18 (.t 32), none⟩, ⟨some 34, .callH 32 [(.t 33), (.c (.int .i64 1))], none⟩])
  (.seq (.ops false [⟨some 2, .mv (.c (.bool true)), none⟩])
  (.ret))))),
  [.t 2]⟩

/- (*noria/slot.Store).Drop -/
def d_slot_Store_Drop : DFun := ⟨
  .seq (.ops false [⟨some 2, .mv (.t 0), none⟩, ⟨some 3, .callH 25 [(.t 2)], none⟩])
  (.cond (.t 3) (.ops false [⟨some 4, .mv (.t 0), none⟩, ⟨some 5, .callH 29 [(.t 4)], none⟩, ⟨some 6, .build [.bool false, .sl [], .sl [], .sl [], .sl [], .sl [], .sl [], .nil] [], none⟩, ⟨some 7, .nilck (.t 5), none⟩, ⟨none, .store 8 (.t 7) (.t 6), none⟩])
   (.skip)),
  []⟩

/- noria/noriaref33.Same -/
def d_noriaref33_Same : DFun := ⟨
  .seq (.ops false [⟨some 2, .box (.t 0), none⟩, ⟨some 3, .box (.t 1), none⟩, ⟨some 4, .mv (.c (.bool false)), none⟩])
  (.seq (.ops false [⟨some 5, .load (some 6) (.t 2), none⟩, ⟨some 6, .load (some 6) (.t 3), none⟩, ⟨some 7, .callP 33 [(.t 5), (.t 6)], none⟩, ⟨some 4, .mv (.t 7), none⟩])
  (.ret)),
  [.t 4]⟩

/- noria/noriaref01.Vals -/
def d_noriaref01_Vals : DFun := ⟨
  .seq (.ops false [⟨some 4, .mv (.c (.bool false)), none⟩])
  (.seq (.seq (.ops false [⟨some 6, .mv (.t 0), none⟩, ⟨some 7, .len (.t 6), none⟩, ⟨some 8, .mv (.t 1), none⟩, ⟨some 9, .len (.t 8), none⟩, ⟨some 10, .bin .neq (.t 7) (.t 9), none⟩])
  (.cond (.t 10) (.seq (.ops false [⟨some 4, .mv (.c (.bool false)), none⟩])
   (.ret))
   (.skip)))
  (.seq (.seq (.ops false [⟨some 5, .mv (.c (.int .i64 0)), none⟩])
  (.block 0 (.loop [0, 1, 5] (some 0) (.seq (.seq (.ops false [⟨some 11, .mv (.t 5), none⟩, ⟨some 12, .mv (.t 0), none⟩, ⟨some 13, .len (.t 12), none⟩, ⟨some 14, .bin .lss (.t 11) (.t 13), none⟩])
    (.cond (.t 14) (.skip)
     (.exit 0)))
    (.seq (.block 1 (.seq (.ops true [⟨some 17, .mv (.t 0), none⟩, ⟨some 18, .mv (.t 5), none⟩, ⟨some 19, .iaddr 1 (.t 17) (.t 18), none⟩, ⟨some 20, .load none (.t 19), none⟩, ⟨some 21, .mv (.t 1), none⟩, ⟨some 22, .mv (.t 5), none⟩, ⟨some 23, .iaddr 1 (.t 21) (.t 22), none⟩, ⟨some 24, .load none (.t 23), none⟩, ⟨some 25, .bin .neq (.t 20) (.t 24), none⟩])
     (.cond (.t 25) (.seq (.ops false [⟨some 4, .mv (.c (.bool false)), none⟩])
      (.ret))
      (.skip))))
    (.ops false [⟨some 15, .mv (.t 5), none⟩, ⟨some 16, .bin .add (.t 15) (.c (.int .i64 1)), none⟩, ⟨some 5, .mv (.t 16), none⟩]))))))
  (.seq (.ops false [⟨some 4, .mv (.c (.bool true)), none⟩])
  (.ret)))),
  [.t 4]⟩

/- noria/norialaw42.act -/
def d_norialaw42_act : DFun := ⟨
  .seq (.ops false [⟨some 7, .bref (.t 3), none⟩, ⟨some 8, .mv (.c (.bool false)), none⟩])
  (.seq (.ops false [⟨some 10, .mv (.t 2), none⟩, ⟨some 11, .faddr 1 (.t 7), none⟩, ⟨some 12, .load none (.t 11), none⟩, ⟨some 13, .callP 12 [(.t 10), (.t 12)], none⟩, ⟨some 9, .alloc [.nil, .nil, .nil, .nil, .nil, .nil], none⟩, ⟨none, .store 6 (.t 9) (.t 13), none⟩])
  (.seq (.seq (.ops false [⟨some 14, .faddr 0 (.t 7), none⟩, ⟨some 15, .load none (.t 14), none⟩])
  (.block 0 (.seq (.ops false [⟨some 17, .bin .eql (.t 15) (.c (.int .i64 0)), none⟩, ⟨some 16, .mv (.t 17), none⟩])
   (.cond (.t 16) (.seq (.opsS [(9, 18), (9, 0)] [(0, ⟨some 18, .mv (.t 0), none⟩), (1, ⟨some 19, .load (some 6) (.t 9), none⟩), (2, ⟨some 20, .im (.faddr 2 (.t 7)), none⟩), (3, ⟨some 21, .im (.load none (.t 20)), none⟩), (5, ⟨some 23, .mv (.t 1), none⟩), (6, ⟨some 24, .load (some 6) (.t 9), none⟩), (7, ⟨some 25, .im (.faddr 2 (.t 7)), none⟩), (8, ⟨some 26, .im (.load none (.t 25)), none⟩), (4, ⟨some 22, .to 18 (.callH 9 [(.t 18), (.t 19), (.t 21)]), none⟩), (9, ⟨some 27, .callH 34 [(.t 23), (.t 24), (.t 26)], none⟩), (10, ⟨some 28, .beq false (.t 22) (.t 27), none⟩), (11, ⟨some 8, .mv (.t 28), none⟩)])
    (.ret))
    (.seq (.ops false [⟨some 30, .bin .eql (.t 15) (.c (.int .i64 1)), none⟩, ⟨some 29, .mv (.t 30), none⟩])
    (.cond (.t 29) (.seq (.opsS [] [(0, ⟨some 31, .mv (.t 0), none⟩), (1, ⟨some 32, .im (.faddr 2 (.t 7)), none⟩), (2, ⟨some 33, .im (.load none (.t 32)), none⟩), (4, ⟨some 35, .mv (.t 1), none⟩), (5, ⟨some 36, .im (.faddr 2 (.t 7)), none⟩), (6, ⟨some 37, .im (.load none (.t 36)), none⟩), (3, ⟨some 34, .to 31 (.callH 23 [(.t 31), (.t 33)]), none⟩), (7, ⟨some 38, .callH 35 [(.t 35), (.t 37)], none⟩), (8, ⟨some 39, .beq false (.t 34) (.t 38), none⟩), (9, ⟨some 8, .mv (.t 39), none⟩)])
     (.ret))
     (.seq (.ops false [⟨some 41, .bin .eql (.t 15) (.c (.int .i64 2)), none⟩, ⟨some 40, .mv (.t 41), none⟩])
     (.cond (.t 40) (.seq (.opsS [(9, 42), (9, 0)] [(0, ⟨some 42, .mv (.t 0), none⟩), (1, ⟨some 43, .load (some 6) (.t 9), none⟩), (3, ⟨some 45, .mv (.t 1), none⟩), (4, ⟨some 46, .load (some 6) (.t 9), none⟩), (2, ⟨some 44, .to 42 (.callH 11 [(.t 42), (.t 43)]), none⟩), (5, ⟨some 47, .callH 36 [(.t 45), (.t 46)], none⟩), (6, ⟨some 48, .beq false (.t 44) (.t 47), none⟩), (7, ⟨some 8, .mv (.t 48), none⟩)])
      (.ret))
      (.seq (.ops false [⟨some 50, .bin .eql (.t 15) (.c (.int .i64 3)), none⟩, ⟨some 49, .mv (.t 50), none⟩])
      (.cond (.t 49) (.seq (.opsS [] [(0, ⟨some 51, .mv (.t 0), none⟩), (1, ⟨some 52, .im (.faddr 2 (.t 7)), none⟩), (2, ⟨some 53, .im (.load none (.t 52)), none⟩), (4, ⟨some 55, .mv (.t 1), none⟩), (5, ⟨some 56, .im (.faddr 2 (.t 7)), none⟩), (6, ⟨some 57, .im (.load none (.t 56)), none⟩), (3, ⟨some 54, .callH 13 [(.t 51), (.t 53)], none⟩), (7, ⟨some 58, .callH 37 [(.t 55), (.t 57)], none⟩), (8, ⟨some 59, .beq false (.t 54) (.t 58), none⟩), (9, ⟨some 8, .mv (.t 59), none⟩)])
       (.ret))
       (.seq (.ops false [⟨some 61, .bin .eql (.t 15) (.c (.int .i64 4)), none⟩, ⟨some 60, .mv (.t 61), none⟩])
       (.cond (.t 60) (.seq (.ops false [⟨some 62, .mv (.t 0), none⟩, ⟨some 63, .callH 14 [(.t 62)], none⟩, ⟨some 64, .mv (.t 1), none⟩, ⟨some 65, .callH 38 [(.t 64)], none⟩, ⟨some 66, .beq false (.t 63) (.t 65), none⟩, ⟨some 8, .mv (.t 66), none⟩])
        (.ret))
        (.skip)))))))))))))
  (.seq (.ops false [⟨some 67, .mv (.t 0), none⟩, ⟨some 68, .callH 15 [(.t 67)], none⟩])
  (.seq (.ops false [⟨some 69, .mv (.t 1), none⟩, ⟨some 70, .callH 39 [(.t 69)], none⟩])
  (.seq (.ops false [⟨some 8, .mv (.c (.bool true)), none⟩])
  (.ret)))))),
  [.t 8]⟩

/- (*noria/slot.Store).Staged -/
def d_slot_Store_Staged : DFun := ⟨
  .seq (.ops false [⟨some 2, .mv (.c (.int .i64 0)), none⟩])
  (.seq (.seq (.ops false [⟨some 3, .mv (.t 0), none⟩, ⟨some 4, .callH 25 [(.t 3)], none⟩, ⟨some 5, .un .not (.t 4), none⟩, ⟨some 6, .mv (.t 5), none⟩, ⟨some 7, .mv (.t 0), some (6, false)⟩, ⟨some 8, .callH 29 [(.t 7)], some (6, false)⟩, ⟨some 9, .nilck (.t 8), some (6, false)⟩, ⟨some 10, .faddr 0 (.t 9), some (6, false)⟩, ⟨some 11, .load none (.t 10), some (6, false)⟩, ⟨some 12, .un .not (.t 11), some (6, false)⟩, ⟨some 13, .pick (.t 6) (.c (.bool true)) (.t 12), none⟩])
  (.cond (.t 13) (.seq (.ops false [⟨some 2, .mv (.c (.int .i64 (-1))), none⟩])
   (.ret))
   (.skip)))
  (.seq (.ops false [⟨some 14, .mv (.t 0), none⟩, ⟨some 15, .callH 29 [(.t 14)], none⟩, ⟨some 16, .nilck (.t 15), none⟩, ⟨some 17, .faddr 7 (.t 16), none⟩, ⟨some 18, .load none (.t 17), none⟩, ⟨some 19, .len (.t 18), none⟩, ⟨some 2, .mv (.t 19), none⟩])
  (.ret))),
  [.t 2]⟩

/- (*noria/noriaref42.W).Many -/
def d_noriaref42_W_Many : DFun := ⟨
  .seq (.ops false [⟨some 2, .mv (.c (.int .i64 0)), none⟩])
  (.seq (.seq (.ops false [⟨some 3, .mv (.t 0), none⟩, ⟨some 4, .nilck (.t 3), none⟩, ⟨some 5, .faddr 8 (.t 4), none⟩, ⟨some 6, .load none (.t 5), none⟩, ⟨some 7, .un .not (.t 6), none⟩])
  (.cond (.t 7) (.seq (.ops false [⟨some 2, .mv (.c (.int .i64 (-1))), none⟩])
   (.ret))
   (.skip)))
  (.seq (.ops false [⟨some 8, .mv (.t 0), none⟩, ⟨some 9, .nilck (.t 8), none⟩, ⟨some 10, .faddr 9 (.t 9), none⟩, ⟨some 11, .faddr 6 (.t 10), none⟩, ⟨some 12, .load none (.t 11), none⟩, ⟨some 13, .len (.t 12), none⟩, ⟨some 2, .mv (.t 13), none⟩])
  (.ret))),
  [.t 2]⟩

/- (*noria/slot.Store).Commits -/
def d_slot_Store_Commits : DFun := ⟨
  .seq (.ops false [⟨some 2, .mv (.c (.int .i64 0)), none⟩])
  (.seq (.seq (.ops false [⟨some 3, .mv (.t 0), none⟩, ⟨some 4, .callH 25 [(.t 3)], none⟩, ⟨some 5, .un .not (.t 4), none⟩])
  (.cond (.t 5) (.seq (.ops false [⟨some 2, .mv (.c (.int .i64 0)), none⟩])
   (.ret))
   (.skip)))
  (.seq (.ops false [⟨some 6, .mv (.t 0), none⟩, ⟨some 7, .nilck (.t 6), none⟩, ⟨some 8, .faddr 18 (.t 7), none⟩, ⟨some 9, .callH 31 [(.t 8)], none⟩, ⟨some 2, .mv (.t 9), none⟩])
  (.ret))),
  [.t 2]⟩

/- noria/noriaref33.Few -/
def d_noriaref33_Few : DFun := ⟨
  .seq (.ops false [⟨some 1, .bref (.t 0), none⟩, ⟨some 2, .mv (.c (.bool false)), none⟩])
  (.seq (.seq (.ops false [⟨some 6, .faddr 0 (.t 1), none⟩, ⟨some 7, .load none (.t 6), none⟩, ⟨some 8, .callP 40 [(.t 7)], none⟩, ⟨some 9, .un .not (.t 8), none⟩, ⟨some 10, .mv (.t 9), none⟩, ⟨some 11, .faddr 1 (.t 1), some (10, false)⟩, ⟨some 12, .load none (.t 11), some (10, false)⟩, ⟨some 13, .len (.t 12), some (10, false)⟩, ⟨some 14, .faddr 2 (.t 1), some (10, false)⟩, ⟨some 15, .load none (.t 14), some (10, false)⟩, ⟨some 16, .len (.t 15), some (10, false)⟩, ⟨some 17, .bin .add (.t 13) (.t 16), some (10, false)⟩, ⟨some 18, .bin .gtr (.t 17) (.c (.int .i64 50)), some (10, false)⟩, ⟨some 19, .pick (.t 10) (.c (.bool true)) (.t 18), none⟩, ⟨some 20, .mv (.t 19), none⟩, ⟨some 21, .faddr 3 (.t 1), some (20, false)⟩, ⟨some 22, .load none (.t 21), some (20, false)⟩, ⟨some 23, .len (.t 22), some (20, false)⟩, ⟨some 24, .bin .gtr (.t 23) (.c (.int .i64 150)), some (20, false)⟩, ⟨some 25, .pick (.t 20) (.c (.bool true)) (.t 24), none⟩, ⟨some 26, .mv (.t 25), none⟩, ⟨some 27, .faddr 4 (.t 1), some (26, false)⟩, ⟨some 28, .load none (.t 27), some (26, false)⟩, ⟨some 29, .len (.t 28), some (26, false)⟩, ⟨some 30, .bin .gtr (.t 29) (.c (.int .i64 1100)), some (26, false)⟩, ⟨some 31, .pick (.t 26) (.c (.bool true)) (.t 30), none⟩, ⟨some 32, .mv (.t 31), none⟩, ⟨some 33, .faddr 5 (.t 1), some (32, false)⟩, ⟨some 34, .load none (.t 33), some (32, false)⟩, ⟨some 35, .len (.t 34), some (32, false)⟩, ⟨some 36, .bin .gtr (.t 35) (.c (.int .i64 800)), some (32, false)⟩, ⟨some 37, .pick (.t 32) (.c (.bool true)) (.t 36), none⟩])
  (.cond (.t 37) (.seq (.ops false [⟨some 2, .mv (.c (.bool false)), none⟩])
   (.ret))
   (.skip)))
  (.seq (.opsP [(1, ⟨some 39, .im (.faddr 1 (.t 1)), none⟩), (2, ⟨some 40, .im (.load none (.t 39)), none⟩), (4, ⟨some 42, .im (.faddr 2 (.t 1)), none⟩), (5, ⟨some 43, .im (.load none (.t 42)), none⟩), (0, ⟨some 38, .bslice false [.str [], .int .i64 0, .int .i64 0, .int .i64 0] [], none⟩), (3, ⟨some 41, .append 4 (.t 38) (.t 40), none⟩), (6, ⟨some 44, .append 4 (.t 41) (.t 43), none⟩), (7, ⟨some 3, .mv (.t 44), none⟩)])
  (.seq (.seq (.ops false [⟨some 4, .mv (.c (.int .i64 0)), none⟩])
  (.block 0 (.loop [1, 3, 4] (some 1) (.seq (.seq (.ops false [⟨some 45, .mv (.t 4), none⟩, ⟨some 46, .mv (.t 3), none⟩, ⟨some 47, .len (.t 46), none⟩, ⟨some 48, .bin .lss (.t 45) (.t 47), none⟩])
    (.cond (.t 48) (.skip)
     (.exit 0)))
    (.seq (.block 1 (.seq (.ops false [⟨some 51, .mv (.t 3), none⟩, ⟨some 52, .mv (.t 4), none⟩, ⟨some 53, .iaddr 4 (.t 51) (.t 52), none⟩, ⟨some 54, .faddr 0 (.t 53), none⟩, ⟨some 55, .load none (.t 54), none⟩, ⟨some 56, .lenS (.t 55), none⟩, ⟨some 57, .bin .gtr (.t 56) (.c (.int .i64 200)), none⟩])
     (.cond (.t 57) (.seq (.ops false [⟨some 2, .mv (.c (.bool false)), none⟩])
      (.ret))
      (.skip))))
    (.ops false [⟨some 49, .mv (.t 4), none⟩, ⟨some 50, .bin .add (.t 49) (.c (.int .i64 1)), none⟩, ⟨some 4, .mv (.t 50), none⟩]))))))
  (.seq (.seq (.ops false [⟨some 5, .mv (.c (.int .i64 0)), none⟩])
  (.block 2 (.loop [1, 5] (some 1) (.seq (.seq (.ops false [⟨some 58, .mv (.t 5), none⟩, ⟨some 59, .faddr 3 (.t 1), none⟩, ⟨some 60, .load none (.t 59), none⟩, ⟨some 61, .len (.t 60), none⟩, ⟨some 62, .bin .lss (.t 58) (.t 61), none⟩])
    (.cond (.t 62) (.skip)
     (.exit 2)))
    (.seq (.block 3 (.seq (.ops false [⟨some 65, .faddr 3 (.t 1), none⟩, ⟨some 66, .load none (.t 65), none⟩, ⟨some 67, .mv (.t 5), none⟩, ⟨some 68, .iaddr 6 (.t 66) (.t 67), none⟩, ⟨some 69, .faddr 0 (.t 68), none⟩, ⟨some 70, .load none (.t 69), none⟩, ⟨some 71, .lenS (.t 70), none⟩, ⟨some 72, .bin .gtr (.t 71) (.c (.int .i64 300)), none⟩, ⟨some 73, .mv (.t 72), none⟩, ⟨some 74, .faddr 3 (.t 1), some (73, false)⟩, ⟨some 75, .load none (.t 74), some (73, false)⟩, ⟨some 76, .mv (.t 5), some (73, false)⟩, ⟨some 77, .iaddr 6 (.t 75) (.t 76), some (73, false)⟩, ⟨some 78, .faddr 5 (.t 77), some (73, false)⟩, ⟨some 79, .load none (.t 78), some (73, false)⟩, ⟨some 80, .len (.t 79), some (73, false)⟩, ⟨some 81, .bin .gtr (.t 80) (.c (.int .i64 300)), some (73, false)⟩, ⟨some 82, .pick (.t 73) (.c (.bool true)) (.t 81), none⟩])
     (.cond (.t 82) (.seq (.ops false [⟨some 2, .mv (.c (.bool false)), none⟩])
      (.ret))
      (.skip))))
    (.ops false [⟨some 63, .mv (.t 5), none⟩, ⟨some 64, .bin .add (.t 63) (.c (.int .i64 1)), none⟩, ⟨some 5, .mv (.t 64), none⟩]))))))
  (.seq (.ops false [⟨some 2, .mv (.c (.bool true)), none⟩])
  (.ret)))))),
  [.t 2]⟩

/- (*noria/slot.Store).Keep -/
def d_slot_Store_Keep : DFun := ⟨
  .seq (.ops false [⟨some 4, .mv (.c (.bool false)), none⟩])
  (.seq (.seq (.ops false [⟨some 6, .mv (.t 0), none⟩, ⟨some 7, .callH 25 [(.t 6)], none⟩, ⟨some 8, .un .not (.t 7), none⟩, ⟨some 9, .mv (.t 8), none⟩, ⟨some 10, .mv (.t 0), some (9, false)⟩, ⟨some 11, .callH 27 [(.t 10)], some (9, false)⟩, ⟨some 12, .nilck (.t 11), some (9, false)⟩, ⟨some 13, .faddr 0 (.t 12), some (9, false)⟩, ⟨some 14, .load none (.t 13), some (9, false)⟩, ⟨some 15, .un .not (.t 14), some (9, false)⟩, ⟨some 16, .pick (.t 9) (.c (.bool true)) (.t 15), none⟩])
  (.cond (.t 16) (.seq (.ops false [⟨some 4, .mv (.c (.bool false)), none⟩])
   (.ret))
   (.skip)))
  (.seq (.ops false [⟨some 17, .mv (.t 0), none⟩, ⟨some 18, .callH 27 [(.t 17)], none⟩, ⟨some 19, .nilck (.t 18), none⟩, ⟨some 20, .faddr 1 (.t 19), none⟩, ⟨some 21, .load (some 6) (.t 20), none⟩, ⟨some 22, .mv (.t 1), none⟩, ⟨some 23, .callH 24 [(.t 21), (.t 22)], none⟩, ⟨some 5, .alloc [.bool false, .nil, .nil, .nil, .nil, .nil, .nil, .nil], none⟩, ⟨none, .store 8 (.t 5) (.t 23), none⟩])
  (.seq (.seq (.ops false [⟨some 24, .load (some 8) (.t 5), none⟩, ⟨some 25, .callP 26 [(.t 24)], none⟩, ⟨some 26, .bin .neq (.t 25) (.c (.int .i64 0)), none⟩])
  (.cond (.t 26) (.seq (.ops false [⟨some 4, .mv (.c (.bool false)), none⟩])
   (.ret))
   (.skip)))
  (.seq (.opsP [(0, ⟨some 27, .mv (.t 0), none⟩), (2, ⟨some 29, .load (some 8) (.t 5), none⟩), (1, ⟨some 28, .rd (.callH 27 [(.t 27)]), none⟩), (3, ⟨some 30, .nilck (.t 28), none⟩), (4, ⟨none, .store 8 (.t 30) (.t 29), none⟩)])
  (.seq (.ops false [⟨some 4, .mv (.c (.bool true)), none⟩])
  (.ret)))))),
  [.t 4]⟩

/- noria/slot.of -/
def d_slot_of : DFun := ⟨
  .seq (.ops false [⟨some 2, .bref (.t 0), none⟩, ⟨some 4, .alloc [.bool false, .nil, .nil, .nil, .nil, .nil, .nil, .nil], none⟩])
  (.seq (.ops true [⟨some 5, .im (.load (some 6) (.t 2)), none⟩, ⟨some 6, .mv (.t 1), none⟩, ⟨some 7, .callH 28 [(.t 6)], none⟩, ⟨some 8, .build [.bool false, .nil, .nil, .nil, .nil, .nil, .nil, .nil] [(0, 1, (.c (.bool true))), (1, 6, (.t 5)), (7, 1, (.t 7))], none⟩, ⟨none, .store 8 (.t 4) (.t 8), none⟩])
  (.ret)),
  [.cell 4 (some 8)]⟩

/- (*noria/slot.Store).is -/
def d_slot_Store_is : DFun := ⟨
  .seq (.ops false [⟨some 2, .mv (.c (.bool false)), none⟩])
  (.seq (.ops false [⟨some 3, .mv (.t 0), none⟩, ⟨some 4, .peq true (.t 3) (.c (.nilp)), none⟩, ⟨some 5, .mv (.t 4), none⟩, ⟨some 6, .mv (.t 0), some (5, true)⟩, ⟨some 7, .nilck (.t 6), some (5, true)⟩, ⟨some 8, .faddr 0 (.t 7), some (5, true)⟩, ⟨some 9, .load none (.t 8), some (5, true)⟩, ⟨some 10, .pick (.t 5) (.t 9) (.c (.bool false)), none⟩, ⟨some 2, .mv (.t 10), none⟩])
  (.ret)),
  [.t 2]⟩

/- (noria/slot.version).missing -/
def d_slot_version_missing : DFun := ⟨
  .seq (.ops false [⟨some 1, .bref (.t 0), none⟩, ⟨some 2, .mv (.c (.int .i64 0)), none⟩])
  (.seq (.opsP [(0, ⟨some 3, .im (.faddr 1 (.t 1)), none⟩), (1, ⟨some 4, .im (.faddr 3 (.t 3)), none⟩), (2, ⟨some 5, .im (.load none (.t 4)), none⟩), (4, ⟨some 7, .im (.faddr 7 (.t 1)), none⟩), (5, ⟨some 8, .im (.load none (.t 7)), none⟩), (6, ⟨some 9, .len (.t 8), none⟩), (3, ⟨some 6, .callP 41 [(.t 5)], none⟩), (7, ⟨some 10, .bin .sub (.t 6) (.t 9), none⟩), (8, ⟨some 2, .mv (.t 10), none⟩)])
  (.ret)),
  [.t 2]⟩

/- (*noria/slot.Store).held -/
def d_slot_Store_held : DFun := ⟨
  .seq (.ops false [⟨some 2, .mv (.c (.nilp)), none⟩])
  (.seq (.opsP [(0, ⟨some 3, .mv (.t 0), none⟩), (1, ⟨some 4, .mv (.t 0), none⟩), (2, ⟨some 5, .nilck (.t 4), none⟩), (3, ⟨some 6, .faddr 17 (.t 5), none⟩), (5, ⟨some 8, .nilck (.t 3), none⟩), (6, ⟨some 9, .faddr 1 (.t 8), none⟩), (4, ⟨some 7, .rd (.callH 31 [(.t 6)]), none⟩), (7, ⟨some 10, .iaddrA 2 8 (.t 9) (.t 7), none⟩), (8, ⟨some 2, .mv (.t 10), none⟩)])
  (.ret)),
  [.t 2]⟩

/- slices.Clone[[]int64,int64] -/
def d_slices_Clone_int64_int64 : DFun := ⟨
  .seq (.ops false [⟨some 2, .mv (.c (.nil)), none⟩])
  (.seq (.seq (.ops false [⟨some 3, .mv (.t 0), none⟩, ⟨some 4, .snil false (.t 3), none⟩])
  (.cond (.t 4) (.seq (.ops false [⟨some 2, .mkown 1 (.c (.nil)), none⟩])
   (.ret))
   (.skip)))
  (.seq (.ops false [⟨some 5, .bslice false [.int .i64 0] [], none⟩, ⟨some 6, .mv (.t 0), none⟩, ⟨some 7, .append 1 (.t 5) (.t 6), none⟩, ⟨some 2, .mv (.t 7), none⟩])
  (.ret))),
  [.t 2]⟩

/- (*noria/slot.Store).other -/
def d_slot_Store_other : DFun := ⟨
  .seq (.ops false [⟨some 2, .mv (.c (.nilp)), none⟩])
  (.seq (.opsP [(0, ⟨some 3, .mv (.t 0), none⟩), (1, ⟨some 4, .mv (.t 0), none⟩), (2, ⟨some 5, .nilck (.t 4), none⟩), (3, ⟨some 6, .faddr 17 (.t 5), none⟩), (6, ⟨some 9, .nilck (.t 3), none⟩), (7, ⟨some 10, .faddr 1 (.t 9), none⟩), (4, ⟨some 7, .rd (.callH 31 [(.t 6)]), none⟩), (5, ⟨some 8, .bin .sub (.c (.int .i64 1)) (.t 7), none⟩), (8, ⟨some 11, .iaddrA 2 8 (.t 10) (.t 8), none⟩), (9, ⟨some 2, .mv (.t 11), none⟩)])
  (.ret)),
  [.t 2]⟩

/- (*sync/atomic.Int64).Store -/
def d_sync_atomic_Int64_Store : DFun := ⟨
  .ops false [⟨some 4, .mv (.t 0), none⟩, ⟨some 5, .nilck (.t 4), none⟩, ⟨some 6, .faddr 0 (.t 5), none⟩, ⟨some 7, .mv (.t 1), none⟩, ⟨some 8, .xstore .i64 42 (.t 6) (.t 7), none⟩],
  []⟩

/- (*sync/atomic.Int64).Load -/
def d_sync_atomic_Int64_Load : DFun := ⟨
  .seq (.ops false [⟨some 2, .mv (.c (.int .i64 0)), none⟩])
  (.seq (.ops false [⟨some 3, .mv (.t 0), none⟩, ⟨some 4, .nilck (.t 3), none⟩, ⟨some 5, .faddr 0 (.t 4), none⟩, ⟨some 6, .xload .i64 43 (.t 5), none⟩, ⟨some 2, .mv (.t 6), none⟩])
  (.ret)),
  [.t 2]⟩

/- (*sync/atomic.Int64).Add -/
def d_sync_atomic_Int64_Add : DFun := ⟨
  .seq (.ops false [⟨some 4, .mv (.c (.int .i64 0)), none⟩])
  (.seq (.ops false [⟨some 5, .mv (.t 0), none⟩, ⟨some 6, .nilck (.t 5), none⟩, ⟨some 7, .faddr 0 (.t 6), none⟩, ⟨some 8, .mv (.t 1), none⟩, ⟨some 9, .xadd .i64 44 (.t 7) (.t 8), none⟩, ⟨some 4, .mv (.t 9), none⟩])
  (.ret)),
  [.t 4]⟩

/- noria/noriaref32.Same -/
def d_noriaref32_Same : DFun := ⟨
  .seq (.ops false [⟨some 2, .box (.t 0), none⟩, ⟨some 3, .box (.t 1), none⟩, ⟨some 4, .mv (.c (.bool false)), none⟩])
  (.seq (.ops false [⟨some 5, .faddr 0 (.t 2), none⟩, ⟨some 6, .load none (.t 5), none⟩, ⟨some 7, .faddr 0 (.t 3), none⟩, ⟨some 8, .load none (.t 7), none⟩, ⟨some 9, .callP 45 [(.t 6), (.t 8)], none⟩, ⟨some 10, .mv (.t 9), none⟩, ⟨some 11, .faddr 1 (.t 2), some (10, true)⟩, ⟨some 12, .load none (.t 11), some (10, true)⟩, ⟨some 13, .faddr 1 (.t 3), some (10, true)⟩, ⟨some 14, .load none (.t 13), some (10, true)⟩, ⟨some 15, .callP 46 [(.t 12), (.t 14)], some (10, true)⟩, ⟨some 16, .pick (.t 10) (.t 15) (.c (.bool false)), none⟩, ⟨some 17, .mv (.t 16), none⟩, ⟨some 18, .faddr 2 (.t 2), some (17, true)⟩, ⟨some 19, .load none (.t 18), some (17, true)⟩, ⟨some 20, .faddr 2 (.t 3), some (17, true)⟩, ⟨some 21, .load none (.t 20), some (17, true)⟩, ⟨some 22, .callP 46 [(.t 19), (.t 21)], some (17, true)⟩, ⟨some 23, .pick (.t 17) (.t 22) (.c (.bool false)), none⟩, ⟨some 24, .mv (.t 23), none⟩, ⟨some 25, .faddr 3 (.t 2), some (24, true)⟩, ⟨some 26, .load none (.t 25), some (24, true)⟩, ⟨some 27, .faddr 3 (.t 3), some (24, true)⟩, ⟨some 28, .load none (.t 27), some (24, true)⟩, ⟨some 29, .callP 47 [(.t 26), (.t 28)], some (24, true)⟩, ⟨some 30, .pick (.t 24) (.t 29) (.c (.bool false)), none⟩, ⟨some 31, .mv (.t 30), none⟩, ⟨some 32, .faddr 4 (.t 2), some (31, true)⟩, ⟨some 33, .load none (.t 32), some (31, true)⟩, ⟨some 34, .faddr 4 (.t 3), some (31, true)⟩, ⟨some 35, .load none (.t 34), some (31, true)⟩, ⟨some 36, .callP 48 [(.t 33), (.t 35)], some (31, true)⟩, ⟨some 37, .pick (.t 31) (.t 36) (.c (.bool false)), none⟩, ⟨some 38, .mv (.t 37), none⟩, ⟨some 39, .faddr 5 (.t 2), some (38, true)⟩, ⟨some 40, .load none (.t 39), some (38, true)⟩, ⟨some 41, .faddr 5 (.t 3), some (38, true)⟩, ⟨some 42, .load none (.t 41), some (38, true)⟩, ⟨some 43, .callP 49 [(.t 40), (.t 42)], some (38, true)⟩, ⟨some 44, .pick (.t 38) (.t 43) (.c (.bool false)), none⟩, ⟨some 4, .mv (.t 44), none⟩])
  (.ret)),
  [.t 4]⟩

/- (*noria/noriaref42.W).Load -/
def d_noriaref42_W_Load : DFun := ⟨
  .seq (.ops false [⟨some 4, .bref (.t 1), none⟩, ⟨some 6, .mv (.c (.bool false)), none⟩])
  (.seq (.seq (.ops false [⟨some 7, .load (some 6) (.t 4), none⟩, ⟨some 8, .mv (.t 2), none⟩, ⟨some 9, .callP 50 [(.t 7), (.t 8)], none⟩, ⟨some 10, .un .not (.t 9), none⟩])
  (.cond (.t 10) (.seq (.ops false [⟨some 6, .mv (.c (.bool false)), none⟩])
   (.ret))
   (.skip)))
  (.seq (.opsS [(4, 17), (4, 16), (4, 11), (4, 0)] [(0, ⟨some 11, .mv (.t 0), none⟩), (1, ⟨some 12, .mv (.t 0), none⟩), (2, ⟨some 13, .load (some 6) (.t 4), none⟩), (3, ⟨some 14, .mv (.t 2), none⟩), (4, ⟨some 15, .build [.nil, .nil, .nil, .nil, .nil, .nil, .nil] [(0, 6, (.t 13)), (6, 1, (.t 14))], none⟩), (5, ⟨some 16, .nilck (.t 11), none⟩), (6, ⟨some 17, .faddr 0 (.t 16), none⟩), (7, ⟨none, .to 17 (.store 1 (.t 17) (.c (.bool true))), none⟩), (8, ⟨some 18, .nilck (.t 12), none⟩), (9, ⟨some 19, .faddr 1 (.t 18), none⟩), (10, ⟨none, .store 7 (.t 19) (.t 15), none⟩)])
  (.seq (.ops false [⟨some 20, .mv (.t 0), none⟩, ⟨some 21, .callH 39 [(.t 20)], none⟩])
  (.seq (.ops false [⟨some 6, .mv (.c (.bool true)), none⟩])
  (.ret))))),
  [.t 6]⟩

/- (*noria/noriaref42.W).Keep -/
def d_noriaref42_W_Keep : DFun := ⟨
  .seq (.ops false [⟨some 4, .mv (.c (.bool false)), none⟩])
  (.seq (.seq (.ops false [⟨some 5, .mv (.t 0), none⟩, ⟨some 6, .nilck (.t 5), none⟩, ⟨some 7, .faddr 0 (.t 6), none⟩, ⟨some 8, .load none (.t 7), none⟩, ⟨some 9, .un .not (.t 8), none⟩, ⟨some 10, .mv (.t 9), none⟩, ⟨some 11, .mv (.t 0), some (10, false)⟩, ⟨some 12, .nilck (.t 11), some (10, false)⟩, ⟨some 13, .faddr 1 (.t 12), some (10, false)⟩, ⟨some 14, .faddr 0 (.t 13), some (10, false)⟩, ⟨some 15, .load (some 6) (.t 14), some (10, false)⟩, ⟨some 16, .mv (.t 1), some (10, false)⟩, ⟨some 17, .callP 50 [(.t 15), (.t 16)], some (10, false)⟩, ⟨some 18, .un .not (.t 17), some (10, false)⟩, ⟨some 19, .pick (.t 10) (.c (.bool true)) (.t 18), none⟩])
  (.cond (.t 19) (.seq (.ops false [⟨some 4, .mv (.c (.bool false)), none⟩])
   (.ret))
   (.skip)))
  (.seq (.ops false [⟨some 20, .mv (.t 0), none⟩, ⟨some 21, .mv (.t 1), none⟩, ⟨some 22, .nilck (.t 20), none⟩, ⟨some 23, .faddr 1 (.t 22), none⟩, ⟨some 24, .faddr 6 (.t 23), none⟩, ⟨none, .store 1 (.t 24) (.t 21), none⟩])
  (.seq (.ops false [⟨some 4, .mv (.c (.bool true)), none⟩])
  (.ret)))),
  [.t 4]⟩

/- (*noria/noriaref42.W).Stage -/
def d_noriaref42_W_Stage : DFun := ⟨
  .seq (.ops false [⟨some 3, .bref (.t 1), none⟩, ⟨some 4, .mv (.c (.bool false)), none⟩])
  (.seq (.seq (.ops false [⟨some 5, .mv (.t 0), none⟩, ⟨some 6, .nilck (.t 5), none⟩, ⟨some 7, .faddr 0 (.t 6), none⟩, ⟨some 8, .load none (.t 7), none⟩, ⟨some 9, .un .not (.t 8), none⟩])
  (.cond (.t 9) (.seq (.ops false [⟨some 4, .mv (.c (.bool false)), none⟩])
   (.ret))
   (.skip)))
  (.seq (.opsS [(3, 15), (3, 14), (3, 10), (3, 0)] [(0, ⟨some 10, .mv (.t 0), none⟩), (1, ⟨some 11, .mv (.t 0), none⟩), (2, ⟨some 12, .load (some 6) (.t 3), none⟩), (3, ⟨some 13, .build [.sl [], .sl [], .sl [], .sl [], .sl [], .sl [], .sl []] [(0, 6, (.t 12))], none⟩), (4, ⟨some 14, .nilck (.t 10), none⟩), (5, ⟨some 15, .faddr 8 (.t 14), none⟩), (6, ⟨none, .to 15 (.store 1 (.t 15) (.c (.bool true))), none⟩), (7, ⟨some 16, .nilck (.t 11), none⟩), (8, ⟨some 17, .faddr 9 (.t 16), none⟩), (9, ⟨none, .store 7 (.t 17) (.t 13), none⟩)])
  (.seq (.ops false [⟨some 4, .mv (.c (.bool true)), none⟩])
  (.ret)))),
  [.t 4]⟩

/- (*noria/noriaref42.W).Write -/
def d_noriaref42_W_Write : DFun := ⟨
  .seq (.ops false [⟨some 4, .mv (.c (.bool false)), none⟩])
  (.seq (.seq (.ops true [⟨some 5, .mv (.t 0), none⟩, ⟨some 6, .nilck (.t 5), none⟩, ⟨some 7, .faddr 8 (.t 6), none⟩, ⟨some 8, .load none (.t 7), none⟩, ⟨some 9, .un .not (.t 8), none⟩, ⟨some 10, .mv (.t 9), none⟩, ⟨some 11, .mv (.t 0), some (10, false)⟩, ⟨some 12, .nilck (.t 11), some (10, false)⟩, ⟨some 13, .faddr 9 (.t 12), some (10, false)⟩, ⟨some 14, .faddr 6 (.t 13), some (10, false)⟩, ⟨some 15, .load none (.t 14), some (10, false)⟩, ⟨some 16, .len (.t 15), some (10, false)⟩, ⟨some 17, .mv (.t 1), some (10, false)⟩, ⟨some 18, .len (.t 17), some (10, false)⟩, ⟨some 19, .bin .add (.t 16) (.t 18), some (10, false)⟩, ⟨some 20, .mv (.t 0), some (10, false)⟩, ⟨some 21, .nilck (.t 20), some (10, false)⟩, ⟨some 22, .faddr 9 (.t 21), some (10, false)⟩, ⟨some 23, .faddr 0 (.t 22), some (10, false)⟩, ⟨some 24, .faddr 3 (.t 23), some (10, false)⟩, ⟨some 25, .load none (.t 24), some (10, false)⟩, ⟨some 26, .callP 51 [(.t 25)], some (10, false)⟩, ⟨some 27, .bin .gtr (.t 19) (.t 26), some (10, false)⟩, ⟨some 28, .pick (.t 10) (.c (.bool true)) (.t 27), none⟩])
  (.cond (.t 28) (.seq (.ops false [⟨some 4, .mv (.c (.bool false)), none⟩])
   (.ret))
   (.skip)))
  (.seq (.ops false [⟨some 29, .mv (.t 0), none⟩, ⟨some 30, .bslice false [.int .i64 0] [], none⟩, ⟨some 31, .mv (.t 0), none⟩, ⟨some 32, .nilck (.t 31), none⟩, ⟨some 33, .faddr 9 (.t 32), none⟩, ⟨some 34, .faddr 6 (.t 33), none⟩, ⟨some 35, .load none (.t 34), none⟩, ⟨some 36, .append 1 (.t 30) (.t 35), none⟩, ⟨some 37, .mv (.t 1), none⟩, ⟨some 38, .fz (.append 1 (.t 36) (.t 37)), none⟩, ⟨some 39, .nilck (.t 29), none⟩, ⟨some 40, .faddr 9 (.t 39), none⟩, ⟨some 41, .faddr 6 (.t 40), none⟩, ⟨none, .store 1 (.t 41) (.t 38), none⟩])
  (.seq (.ops false [⟨some 4, .mv (.c (.bool true)), none⟩])
  (.ret)))),
  [.t 4]⟩

/- (*noria/noriaref42.W).Commit -/
def d_noriaref42_W_Commit : DFun := ⟨
  .seq (.ops false [⟨some 2, .mv (.c (.bool false)), none⟩])
  (.seq (.seq (.ops true [⟨some 3, .mv (.t 0), none⟩, ⟨some 4, .nilck (.t 3), none⟩, ⟨some 5, .faddr 8 (.t 4), none⟩, ⟨some 6, .load none (.t 5), none⟩, ⟨some 7, .un .not (.t 6), none⟩, ⟨some 8, .mv (.t 7), none⟩, ⟨some 9, .mv (.t 0), some (8, false)⟩, ⟨some 10, .nilck (.t 9), some (8, false)⟩, ⟨some 11, .faddr 9 (.t 10), some (8, false)⟩, ⟨some 12, .faddr 0 (.t 11), some (8, false)⟩, ⟨some 13, .load (some 6) (.t 12), some (8, false)⟩, ⟨some 14, .mv (.t 0), some (8, false)⟩, ⟨some 15, .nilck (.t 14), some (8, false)⟩, ⟨some 16, .faddr 9 (.t 15), some (8, false)⟩, ⟨some 17, .faddr 6 (.t 16), some (8, false)⟩, ⟨some 18, .load none (.t 17), some (8, false)⟩, ⟨some 19, .callP 50 [(.t 13), (.t 18)], some (8, false)⟩, ⟨some 20, .un .not (.t 19), some (8, false)⟩, ⟨some 21, .pick (.t 8) (.c (.bool true)) (.t 20), none⟩])
  (.cond (.t 21) (.seq (.ops false [⟨some 2, .mv (.c (.bool false)), none⟩])
   (.ret))
   (.skip)))
  (.seq (.ops true [⟨some 22, .mv (.t 0), none⟩, ⟨some 23, .mv (.t 0), none⟩, ⟨some 24, .mv (.t 0), none⟩, ⟨some 25, .nilck (.t 24), none⟩, ⟨some 26, .faddr 9 (.t 25), none⟩, ⟨some 27, .load (some 7) (.t 26), none⟩, ⟨some 28, .mv (.t 0), none⟩, ⟨some 29, .nilck (.t 28), none⟩, ⟨some 30, .faddr 1 (.t 29), none⟩, ⟨some 31, .load (some 7) (.t 30), none⟩, ⟨some 32, .nilck (.t 22), none⟩, ⟨some 33, .faddr 1 (.t 32), none⟩, ⟨none, .store 7 (.t 33) (.t 27), none⟩, ⟨some 34, .nilck (.t 23), none⟩, ⟨some 35, .faddr 9 (.t 34), none⟩, ⟨none, .store 7 (.t 35) (.t 31), none⟩])
  (.seq (.ops false [⟨some 36, .mv (.t 0), none⟩, ⟨some 37, .nilck (.t 36), none⟩, ⟨some 38, .faddr 16 (.t 37), none⟩, ⟨some 39, .load none (.t 38), none⟩, ⟨some 40, .bin .add (.t 39) (.c (.int .i64 1)), none⟩, ⟨some 41, .nilck (.t 36), none⟩, ⟨some 42, .faddr 16 (.t 41), none⟩, ⟨none, .store 1 (.t 42) (.t 40), none⟩])
  (.seq (.ops false [⟨some 2, .mv (.c (.bool true)), none⟩])
  (.ret))))),
  [.t 2]⟩

/- (*noria/noriaref42.W).Drop -/
def d_noriaref42_W_Drop : DFun := ⟨
  .ops false [⟨some 2, .mv (.t 0), none⟩, ⟨some 3, .mv (.t 0), none⟩, ⟨some 4, .build [.sl [], .sl [], .sl [], .sl [], .sl [], .sl [], .sl []] [], none⟩, ⟨some 5, .nilck (.t 2), none⟩, ⟨some 6, .faddr 8 (.t 5), none⟩, ⟨none, .store 1 (.t 6) (.c (.bool false)), none⟩, ⟨some 7, .nilck (.t 3), none⟩, ⟨some 8, .faddr 9 (.t 7), none⟩, ⟨none, .store 7 (.t 8) (.t 4), none⟩],
  []⟩

/- noria/noriaref05.Small -/
def d_noriaref05_Small : DFun := ⟨
  .seq (.ops false [⟨some 2, .mv (.c (.bool false)), none⟩])
  (.seq (.seq (.ops false [⟨some 5, .mv (.t 0), none⟩, ⟨some 6, .len (.t 5), none⟩, ⟨some 7, .bin .gtr (.t 6) (.c (.int .i64 8)), none⟩])
  (.cond (.t 7) (.seq (.ops false [⟨some 2, .mv (.c (.bool false)), none⟩])
   (.ret))
   (.skip)))
  (.seq (.seq (.ops false [⟨some 3, .mv (.c (.int .i64 0)), none⟩])
  (.block 0 (.loop [0, 3] (some 0) (.seq (.seq (.ops false [⟨some 8, .mv (.t 3), none⟩, ⟨some 9, .mv (.t 0), none⟩, ⟨some 10, .len (.t 9), none⟩, ⟨some 11, .bin .lss (.t 8) (.t 10), none⟩])
    (.cond (.t 11) (.skip)
     (.exit 0)))
    (.seq (.block 1 (.seq (.seq (.ops false [⟨some 14, .mv (.t 0), none⟩, ⟨some 15, .mv (.t 3), none⟩, ⟨some 16, .iaddr 2 (.t 14) (.t 15), none⟩, ⟨some 17, .faddr 1 (.t 16), none⟩, ⟨some 18, .load none (.t 17), none⟩, ⟨some 19, .len (.t 18), none⟩, ⟨some 20, .bin .gtr (.t 19) (.c (.int .i64 12)), none⟩, ⟨some 21, .mv (.t 20), none⟩, ⟨some 22, .mv (.t 0), some (21, false)⟩, ⟨some 23, .mv (.t 3), some (21, false)⟩, ⟨some 24, .iaddr 2 (.t 22) (.t 23), some (21, false)⟩, ⟨some 25, .faddr 0 (.t 24), some (21, false)⟩, ⟨some 26, .load none (.t 25), some (21, false)⟩, ⟨some 27, .lenS (.t 26), some (21, false)⟩, ⟨some 28, .bin .gtr (.t 27) (.c (.int .i64 100)), some (21, false)⟩, ⟨some 29, .pick (.t 21) (.c (.bool true)) (.t 28), none⟩])
     (.cond (.t 29) (.seq (.ops false [⟨some 2, .mv (.c (.bool false)), none⟩])
      (.ret))
      (.skip)))
     (.seq (.ops false [⟨some 4, .mv (.c (.int .i64 0)), none⟩])
     (.block 2 (.loop [0, 3, 4] (some 0) (.seq (.seq (.ops false [⟨some 30, .mv (.t 4), none⟩, ⟨some 31, .mv (.t 0), none⟩, ⟨some 32, .mv (.t 3), none⟩, ⟨some 33, .iaddr 2 (.t 31) (.t 32), none⟩, ⟨some 34, .faddr 1 (.t 33), none⟩, ⟨some 35, .load none (.t 34), none⟩, ⟨some 36, .len (.t 35), none⟩, ⟨some 37, .bin .lss (.t 30) (.t 36), none⟩])
       (.cond (.t 37) (.skip)
        (.exit 2)))
       (.seq (.block 3 (.seq (.ops false [⟨some 40, .mv (.t 0), none⟩, ⟨some 41, .mv (.t 3), none⟩, ⟨some 42, .iaddr 2 (.t 40) (.t 41), none⟩, ⟨some 43, .faddr 1 (.t 42), none⟩, ⟨some 44, .load none (.t 43), none⟩, ⟨some 45, .mv (.t 4), none⟩, ⟨some 46, .iaddr 1 (.t 44) (.t 45), none⟩, ⟨some 47, .load none (.t 46), none⟩, ⟨some 48, .lenS (.t 47), none⟩, ⟨some 49, .bin .gtr (.t 48) (.c (.int .i64 100)), none⟩])
        (.cond (.t 49) (.seq (.ops false [⟨some 2, .mv (.c (.bool false)), none⟩])
         (.ret))
         (.skip))))
       (.ops false [⟨some 38, .mv (.t 4), none⟩, ⟨some 39, .bin .add (.t 38) (.c (.int .i64 1)), none⟩, ⟨some 4, .mv (.t 39), none⟩]))))))))
    (.ops false [⟨some 12, .mv (.t 3), none⟩, ⟨some 13, .bin .add (.t 12) (.c (.int .i64 1)), none⟩, ⟨some 3, .mv (.t 13), none⟩]))))))
  (.seq (.ops false [⟨some 2, .mv (.c (.bool true)), none⟩])
  (.ret)))),
  [.t 2]⟩

/- noria/tree.Cells -/
def d_tree_Cells : DFun := ⟨
  .seq (.ops false [⟨some 2, .mv (.c (.int .i64 0)), none⟩])
  (.seq (.ops false [⟨some 3, .mv (.c (.int .i64 0)), none⟩])
  (.seq (.seq (.ops false [⟨some 6, .mv (.t 0), none⟩, ⟨some 7, .len (.t 6), none⟩, ⟨some 8, .mv (.c (.int .i64 0)), none⟩])
  (.block 0 (.loop [3, 6, 7, 8] (some 0) (.seq (.ops false [⟨some 9, .bin .lss (.t 8) (.t 7), none⟩])
    (.seq (.cond (.t 9) (.skip)
     (.exit 0))
    (.seq (.block 1 (.seq (.ops false [⟨some 10, .iaddr 6 (.t 6) (.t 8), none⟩, ⟨some 11, .load (some 6) (.t 10), none⟩, ⟨some 5, .alloc [.str [], .int .i64 0, .int .i64 0, .int .i64 0, .int .i64 0, .nil], none⟩, ⟨none, .store 6 (.t 5) (.t 11), none⟩])
     (.ops false [⟨some 12, .mv (.t 3), none⟩, ⟨some 13, .faddr 1 (.t 5), none⟩, ⟨some 14, .load (some 3) (.t 13), none⟩, ⟨some 15, .callP 52 [(.t 14)], none⟩, ⟨some 16, .bin .add (.t 12) (.t 15), none⟩, ⟨some 3, .mv (.t 16), none⟩])))
    (.ops false [⟨some 17, .bin .add (.t 8) (.c (.int .i64 1)), none⟩, ⟨some 8, .mv (.t 17), none⟩])))))))
  (.seq (.ops false [⟨some 18, .mv (.t 3), none⟩, ⟨some 2, .mv (.t 18), none⟩])
  (.ret)))),
  [.t 2]⟩

/- noria/noriaref05.Same -/
def d_noriaref05_Same : DFun := ⟨
  .seq (.ops false [⟨some 4, .mv (.c (.bool false)), none⟩])
  (.seq (.seq (.ops false [⟨some 6, .mv (.t 0), none⟩, ⟨some 7, .len (.t 6), none⟩, ⟨some 8, .mv (.t 1), none⟩, ⟨some 9, .len (.t 8), none⟩, ⟨some 10, .bin .neq (.t 7) (.t 9), none⟩])
  (.cond (.t 10) (.seq (.ops false [⟨some 4, .mv (.c (.bool false)), none⟩])
   (.ret))
   (.skip)))
  (.seq (.seq (.ops false [⟨some 5, .mv (.c (.int .i64 0)), none⟩])
  (.block 0 (.loop [0, 1, 5] (some 0) (.seq (.seq (.ops false [⟨some 11, .mv (.t 5), none⟩, ⟨some 12, .mv (.t 0), none⟩, ⟨some 13, .len (.t 12), none⟩, ⟨some 14, .bin .lss (.t 11) (.t 13), none⟩])
    (.cond (.t 14) (.skip)
     (.exit 0)))
    (.seq (.block 1 (.seq (.ops true [⟨some 17, .mv (.t 0), none⟩, ⟨some 18, .mv (.t 5), none⟩, ⟨some 19, .iaddr 2 (.t 17) (.t 18), none⟩, ⟨some 20, .faddr 0 (.t 19), none⟩, ⟨some 21, .load none (.t 20), none⟩, ⟨some 22, .mv (.t 1), none⟩, ⟨some 23, .mv (.t 5), none⟩, ⟨some 24, .iaddr 2 (.t 22) (.t 23), none⟩, ⟨some 25, .faddr 0 (.t 24), none⟩, ⟨some 26, .load none (.t 25), none⟩, ⟨some 27, .bin .neq (.t 21) (.t 26), none⟩, ⟨some 28, .mv (.t 27), none⟩, ⟨some 29, .mv (.t 0), some (28, false)⟩, ⟨some 30, .mv (.t 5), some (28, false)⟩, ⟨some 31, .iaddr 2 (.t 29) (.t 30), some (28, false)⟩, ⟨some 32, .faddr 1 (.t 31), some (28, false)⟩, ⟨some 33, .load none (.t 32), some (28, false)⟩, ⟨some 34, .mv (.t 1), some (28, false)⟩, ⟨some 35, .mv (.t 5), some (28, false)⟩, ⟨some 36, .iaddr 2 (.t 34) (.t 35), some (28, false)⟩, ⟨some 37, .faddr 1 (.t 36), some (28, false)⟩, ⟨some 38, .load none (.t 37), some (28, false)⟩, ⟨some 39, .callP 53 [(.t 33), (.t 38)], some (28, false)⟩, ⟨some 40, .un .not (.t 39), some (28, false)⟩, ⟨some 41, .pick (.t 28) (.c (.bool true)) (.t 40), none⟩])
     (.cond (.t 41) (.seq (.ops false [⟨some 4, .mv (.c (.bool false)), none⟩])
      (.ret))
      (.skip))))
    (.ops false [⟨some 15, .mv (.t 5), none⟩, ⟨some 16, .bin .add (.t 15) (.c (.int .i64 1)), none⟩, ⟨some 5, .mv (.t 16), none⟩]))))))
  (.seq (.ops false [⟨some 4, .mv (.c (.bool true)), none⟩])
  (.ret)))),
  [.t 4]⟩

/- noria/noriaref20.Same -/
def d_noriaref20_Same : DFun := ⟨
  .seq (.ops false [⟨some 4, .mv (.c (.bool false)), none⟩])
  (.seq (.seq (.ops false [⟨some 6, .mv (.t 0), none⟩, ⟨some 7, .len (.t 6), none⟩, ⟨some 8, .mv (.t 1), none⟩, ⟨some 9, .len (.t 8), none⟩, ⟨some 10, .bin .neq (.t 7) (.t 9), none⟩])
  (.cond (.t 10) (.seq (.ops false [⟨some 4, .mv (.c (.bool false)), none⟩])
   (.ret))
   (.skip)))
  (.seq (.seq (.ops false [⟨some 5, .mv (.c (.int .i64 0)), none⟩])
  (.block 0 (.loop [0, 1, 5] (some 0) (.seq (.seq (.ops false [⟨some 11, .mv (.t 5), none⟩, ⟨some 12, .mv (.t 0), none⟩, ⟨some 13, .len (.t 12), none⟩, ⟨some 14, .bin .lss (.t 11) (.t 13), none⟩])
    (.cond (.t 14) (.skip)
     (.exit 0)))
    (.seq (.block 1 (.seq (.ops true [⟨some 17, .mv (.t 0), none⟩, ⟨some 18, .mv (.t 5), none⟩, ⟨some 19, .iaddr 4 (.t 17) (.t 18), none⟩, ⟨some 20, .load (some 4) (.t 19), none⟩, ⟨some 21, .mv (.t 1), none⟩, ⟨some 22, .mv (.t 5), none⟩, ⟨some 23, .iaddr 4 (.t 21) (.t 22), none⟩, ⟨some 24, .load (some 4) (.t 23), none⟩, ⟨some 25, .aeq true [2, 0, 0, 0] (.t 20) (.t 24), none⟩])
     (.cond (.t 25) (.seq (.ops false [⟨some 4, .mv (.c (.bool false)), none⟩])
      (.ret))
      (.skip))))
    (.ops false [⟨some 15, .mv (.t 5), none⟩, ⟨some 16, .bin .add (.t 15) (.c (.int .i64 1)), none⟩, ⟨some 5, .mv (.t 16), none⟩]))))))
  (.seq (.ops false [⟨some 4, .mv (.c (.bool true)), none⟩])
  (.ret)))),
  [.t 4]⟩

/- noria/noriaref27.Same -/
def d_noriaref27_Same : DFun := ⟨
  .seq (.ops false [⟨some 4, .mv (.c (.bool false)), none⟩])
  (.seq (.seq (.ops false [⟨some 6, .mv (.t 0), none⟩, ⟨some 7, .len (.t 6), none⟩, ⟨some 8, .mv (.t 1), none⟩, ⟨some 9, .len (.t 8), none⟩, ⟨some 10, .bin .neq (.t 7) (.t 9), none⟩])
  (.cond (.t 10) (.seq (.ops false [⟨some 4, .mv (.c (.bool false)), none⟩])
   (.ret))
   (.skip)))
  (.seq (.seq (.ops false [⟨some 5, .mv (.c (.int .i64 0)), none⟩])
  (.block 0 (.loop [0, 1, 5] (some 0) (.seq (.seq (.ops false [⟨some 11, .mv (.t 5), none⟩, ⟨some 12, .mv (.t 0), none⟩, ⟨some 13, .len (.t 12), none⟩, ⟨some 14, .bin .lss (.t 11) (.t 13), none⟩])
    (.cond (.t 14) (.skip)
     (.exit 0)))
    (.seq (.block 1 (.seq (.ops true [⟨some 17, .mv (.t 0), none⟩, ⟨some 18, .mv (.t 5), none⟩, ⟨some 19, .iaddr 6 (.t 17) (.t 18), none⟩, ⟨some 20, .faddr 0 (.t 19), none⟩, ⟨some 21, .load none (.t 20), none⟩, ⟨some 22, .mv (.t 1), none⟩, ⟨some 23, .mv (.t 5), none⟩, ⟨some 24, .iaddr 6 (.t 22) (.t 23), none⟩, ⟨some 25, .faddr 0 (.t 24), none⟩, ⟨some 26, .load none (.t 25), none⟩, ⟨some 27, .bin .neq (.t 21) (.t 26), none⟩, ⟨some 28, .mv (.t 27), none⟩, ⟨some 29, .mv (.t 0), some (28, false)⟩, ⟨some 30, .mv (.t 5), some (28, false)⟩, ⟨some 31, .iaddr 6 (.t 29) (.t 30), some (28, false)⟩, ⟨some 32, .faddr 1 (.t 31), some (28, false)⟩, ⟨some 33, .load (some 3) (.t 32), some (28, false)⟩, ⟨some 34, .mv (.t 1), some (28, false)⟩, ⟨some 35, .mv (.t 5), some (28, false)⟩, ⟨some 36, .iaddr 6 (.t 34) (.t 35), some (28, false)⟩, ⟨some 37, .faddr 1 (.t 36), some (28, false)⟩, ⟨some 38, .load (some 3) (.t 37), some (28, false)⟩, ⟨some 39, .aeq true [0, 0, 0] (.t 33) (.t 38), some (28, false)⟩, ⟨some 40, .pick (.t 28) (.c (.bool true)) (.t 39), none⟩, ⟨some 41, .mv (.t 40), none⟩, ⟨some 42, .mv (.t 0), some (41, false)⟩, ⟨some 43, .mv (.t 5), some (41, false)⟩, ⟨some 44, .iaddr 6 (.t 42) (.t 43), some (41, false)⟩, ⟨some 45, .faddr 4 (.t 44), some (41, false)⟩, ⟨some 46, .load none (.t 45), some (41, false)⟩, ⟨some 47, .mv (.t 1), some (41, false)⟩, ⟨some 48, .mv (.t 5), some (41, false)⟩, ⟨some 49, .iaddr 6 (.t 47) (.t 48), some (41, false)⟩, ⟨some 50, .faddr 4 (.t 49), some (41, false)⟩, ⟨some 51, .load none (.t 50), some (41, false)⟩, ⟨some 52, .bin .neq (.t 46) (.t 51), some (41, false)⟩, ⟨some 53, .pick (.t 41) (.c (.bool true)) (.t 52), none⟩, ⟨some 54, .mv (.t 53), none⟩, ⟨some 55, .mv (.t 0), some (54, false)⟩, ⟨some 56, .mv (.t 5), some (54, false)⟩, ⟨some 57, .iaddr 6 (.t 55) (.t 56), some (54, false)⟩, ⟨some 58, .faddr 5 (.t 57), some (54, false)⟩, ⟨some 59, .load none (.t 58), some (54, false)⟩, ⟨some 60, .mv (.t 1), some (54, false)⟩, ⟨some 61, .mv (.t 5), some (54, false)⟩, ⟨some 62, .iaddr 6 (.t 60) (.t 61), some (54, false)⟩, ⟨some 63, .faddr 5 (.t 62), some (54, false)⟩, ⟨some 64, .load none (.t 63), some (54, false)⟩, ⟨some 65, .callP 17 [(.t 59), (.t 64)], some (54, false)⟩, ⟨some 66, .un .not (.t 65), some (54, false)⟩, ⟨some 67, .pick (.t 54) (.c (.bool true)) (.t 66), none⟩])
     (.cond (.t 67) (.seq (.ops false [⟨some 4, .mv (.c (.bool false)), none⟩])
      (.ret))
      (.skip))))
    (.ops false [⟨some 15, .mv (.t 5), none⟩, ⟨some 16, .bin .add (.t 15) (.c (.int .i64 1)), none⟩, ⟨some 5, .mv (.t 16), none⟩]))))))
  (.seq (.ops false [⟨some 4, .mv (.c (.bool true)), none⟩])
  (.ret)))),
  [.t 4]⟩

/- noria/noriaref32.SameInts -/
def d_noriaref32_SameInts : DFun := ⟨
  .seq (.ops false [⟨some 4, .mv (.c (.bool false)), none⟩])
  (.seq (.seq (.ops false [⟨some 6, .mv (.t 0), none⟩, ⟨some 7, .len (.t 6), none⟩, ⟨some 8, .mv (.t 1), none⟩, ⟨some 9, .len (.t 8), none⟩, ⟨some 10, .bin .neq (.t 7) (.t 9), none⟩])
  (.cond (.t 10) (.seq (.ops false [⟨some 4, .mv (.c (.bool false)), none⟩])
   (.ret))
   (.skip)))
  (.seq (.seq (.ops false [⟨some 5, .mv (.c (.int .i64 0)), none⟩])
  (.block 0 (.loop [0, 1, 5] (some 0) (.seq (.seq (.ops false [⟨some 11, .mv (.t 5), none⟩, ⟨some 12, .mv (.t 0), none⟩, ⟨some 13, .len (.t 12), none⟩, ⟨some 14, .bin .lss (.t 11) (.t 13), none⟩])
    (.cond (.t 14) (.skip)
     (.exit 0)))
    (.seq (.block 1 (.seq (.ops true [⟨some 17, .mv (.t 0), none⟩, ⟨some 18, .mv (.t 5), none⟩, ⟨some 19, .iaddr 1 (.t 17) (.t 18), none⟩, ⟨some 20, .load none (.t 19), none⟩, ⟨some 21, .mv (.t 1), none⟩, ⟨some 22, .mv (.t 5), none⟩, ⟨some 23, .iaddr 1 (.t 21) (.t 22), none⟩, ⟨some 24, .load none (.t 23), none⟩, ⟨some 25, .bin .neq (.t 20) (.t 24), none⟩])
     (.cond (.t 25) (.seq (.ops false [⟨some 4, .mv (.c (.bool false)), none⟩])
      (.ret))
      (.skip))))
    (.ops false [⟨some 15, .mv (.t 5), none⟩, ⟨some 16, .bin .add (.t 15) (.c (.int .i64 1)), none⟩, ⟨some 5, .mv (.t 16), none⟩]))))))
  (.seq (.ops false [⟨some 4, .mv (.c (.bool true)), none⟩])
  (.ret)))),
  [.t 4]⟩

/- noria/noriaref28.Same -/
def d_noriaref28_Same : DFun := ⟨
  .seq (.ops false [⟨some 4, .mv (.c (.bool false)), none⟩])
  (.seq (.seq (.ops false [⟨some 6, .mv (.t 0), none⟩, ⟨some 7, .len (.t 6), none⟩, ⟨some 8, .mv (.t 1), none⟩, ⟨some 9, .len (.t 8), none⟩, ⟨some 10, .bin .neq (.t 7) (.t 9), none⟩])
  (.cond (.t 10) (.seq (.ops false [⟨some 4, .mv (.c (.bool false)), none⟩])
   (.ret))
   (.skip)))
  (.seq (.seq (.ops false [⟨some 5, .mv (.c (.int .i64 0)), none⟩])
  (.block 0 (.loop [0, 1, 5] (some 0) (.seq (.seq (.ops false [⟨some 11, .mv (.t 5), none⟩, ⟨some 12, .mv (.t 0), none⟩, ⟨some 13, .len (.t 12), none⟩, ⟨some 14, .bin .lss (.t 11) (.t 13), none⟩])
    (.cond (.t 14) (.skip)
     (.exit 0)))
    (.seq (.block 1 (.seq (.ops true [⟨some 17, .mv (.t 0), none⟩, ⟨some 18, .mv (.t 5), none⟩, ⟨some 19, .iaddr 4 (.t 17) (.t 18), none⟩, ⟨some 20, .load (some 4) (.t 19), none⟩, ⟨some 21, .mv (.t 1), none⟩, ⟨some 22, .mv (.t 5), none⟩, ⟨some 23, .iaddr 4 (.t 21) (.t 22), none⟩, ⟨some 24, .load (some 4) (.t 23), none⟩, ⟨some 25, .aeq true [0, 0, 0, 0] (.t 20) (.t 24), none⟩])
     (.cond (.t 25) (.seq (.ops false [⟨some 4, .mv (.c (.bool false)), none⟩])
      (.ret))
      (.skip))))
    (.ops false [⟨some 15, .mv (.t 5), none⟩, ⟨some 16, .bin .add (.t 15) (.c (.int .i64 1)), none⟩, ⟨some 5, .mv (.t 16), none⟩]))))))
  (.seq (.ops false [⟨some 4, .mv (.c (.bool true)), none⟩])
  (.ret)))),
  [.t 4]⟩

/- noria/noriaref42.fits -/
def d_noriaref42_fits : DFun := ⟨
  .seq (.ops false [⟨some 2, .bref (.t 0), none⟩, ⟨some 4, .mv (.c (.bool false)), none⟩])
  (.seq (.ops false [⟨some 5, .mv (.t 1), none⟩, ⟨some 6, .len (.t 5), none⟩, ⟨some 7, .faddr 3 (.t 2), none⟩, ⟨some 8, .load none (.t 7), none⟩, ⟨some 9, .callP 51 [(.t 8)], none⟩, ⟨some 10, .bin .eql (.t 6) (.t 9), none⟩, ⟨some 4, .mv (.t 10), none⟩])
  (.ret)),
  [.t 4]⟩

/- noria/noriaref27.Cells -/
def d_noriaref27_Cells : DFun := ⟨
  .seq (.ops false [⟨some 2, .mv (.c (.int .i64 0)), none⟩])
  (.seq (.ops false [⟨some 3, .mv (.c (.int .i64 0)), none⟩])
  (.seq (.seq (.ops false [⟨some 4, .mv (.c (.int .i64 0)), none⟩])
  (.block 0 (.loop [0, 3, 4] (some 0) (.seq (.seq (.ops false [⟨some 5, .mv (.t 4), none⟩, ⟨some 6, .mv (.t 0), none⟩, ⟨some 7, .len (.t 6), none⟩, ⟨some 8, .bin .lss (.t 5) (.t 7), none⟩])
    (.cond (.t 8) (.skip)
     (.exit 0)))
    (.seq (.block 1 (.ops false [⟨some 11, .mv (.t 3), none⟩, ⟨some 12, .mv (.t 0), none⟩, ⟨some 13, .mv (.t 4), none⟩, ⟨some 14, .iaddr 6 (.t 12) (.t 13), none⟩, ⟨some 15, .faddr 1 (.t 14), none⟩, ⟨some 16, .load (some 3) (.t 15), none⟩, ⟨some 17, .callP 54 [(.t 16)], none⟩, ⟨some 18, .bin .add (.t 11) (.t 17), none⟩, ⟨some 3, .mv (.t 18), none⟩]))
    (.ops false [⟨some 9, .mv (.t 4), none⟩, ⟨some 10, .bin .add (.t 9) (.c (.int .i64 1)), none⟩, ⟨some 4, .mv (.t 10), none⟩]))))))
  (.seq (.ops false [⟨some 19, .mv (.t 3), none⟩, ⟨some 2, .mv (.t 19), none⟩])
  (.ret)))),
  [.t 2]⟩

/- noria/ty.Cells -/
def d_ty_Cells : DFun := ⟨
  .seq (.ops false [⟨some 1, .box (.t 0), none⟩, ⟨some 2, .mv (.c (.int .i64 0)), none⟩])
  (.seq (.ops false [⟨some 3, .faddr 2 (.t 1), none⟩, ⟨some 4, .load none (.t 3), none⟩, ⟨some 5, .minmax true (.t 4) (.c (.int .i64 1)), none⟩, ⟨some 6, .minmax false (.t 5) (.c (.int .i64 8)), none⟩, ⟨some 2, .mv (.t 6), none⟩])
  (.ret)),
  [.t 2]⟩

/- noria/noriaref01.Names -/
def d_noriaref01_Names : DFun := ⟨
  .seq (.ops false [⟨some 4, .mv (.c (.bool false)), none⟩])
  (.seq (.seq (.ops false [⟨some 6, .mv (.t 0), none⟩, ⟨some 7, .len (.t 6), none⟩, ⟨some 8, .mv (.t 1), none⟩, ⟨some 9, .len (.t 8), none⟩, ⟨some 10, .bin .neq (.t 7) (.t 9), none⟩])
  (.cond (.t 10) (.seq (.ops false [⟨some 4, .mv (.c (.bool false)), none⟩])
   (.ret))
   (.skip)))
  (.seq (.seq (.ops false [⟨some 5, .mv (.c (.int .i64 0)), none⟩])
  (.block 0 (.loop [0, 1, 5] (some 0) (.seq (.seq (.ops false [⟨some 11, .mv (.t 5), none⟩, ⟨some 12, .mv (.t 0), none⟩, ⟨some 13, .len (.t 12), none⟩, ⟨some 14, .bin .lss (.t 11) (.t 13), none⟩])
    (.cond (.t 14) (.skip)
     (.exit 0)))
    (.seq (.block 1 (.seq (.ops true [⟨some 17, .mv (.t 0), none⟩, ⟨some 18, .mv (.t 5), none⟩, ⟨some 19, .iaddr 1 (.t 17) (.t 18), none⟩, ⟨some 20, .load none (.t 19), none⟩, ⟨some 21, .mv (.t 1), none⟩, ⟨some 22, .mv (.t 5), none⟩, ⟨some 23, .iaddr 1 (.t 21) (.t 22), none⟩, ⟨some 24, .load none (.t 23), none⟩, ⟨some 25, .bin .neq (.t 20) (.t 24), none⟩])
     (.cond (.t 25) (.seq (.ops false [⟨some 4, .mv (.c (.bool false)), none⟩])
      (.ret))
      (.skip))))
    (.ops false [⟨some 15, .mv (.t 5), none⟩, ⟨some 16, .bin .add (.t 15) (.c (.int .i64 1)), none⟩, ⟨some 5, .mv (.t 16), none⟩]))))))
  (.seq (.ops false [⟨some 4, .mv (.c (.bool true)), none⟩])
  (.ret)))),
  [.t 4]⟩

/- noria/noriaref05.Cells -/
def d_noriaref05_Cells : DFun := ⟨
  .seq (.ops false [⟨some 1, .box (.t 0), none⟩, ⟨some 2, .mv (.c (.int .i64 0)), none⟩])
  (.seq (.seq (.ops false [⟨some 3, .faddr 2 (.t 1), none⟩, ⟨some 4, .load none (.t 3), none⟩, ⟨some 5, .bin .lss (.t 4) (.c (.int .i64 1)), none⟩])
  (.cond (.t 5) (.seq (.ops false [⟨some 2, .mv (.c (.int .i64 1)), none⟩])
   (.ret))
   (.skip)))
  (.seq (.seq (.ops false [⟨some 6, .faddr 2 (.t 1), none⟩, ⟨some 7, .load none (.t 6), none⟩, ⟨some 8, .bin .gtr (.t 7) (.c (.int .i64 8)), none⟩])
  (.cond (.t 8) (.seq (.ops false [⟨some 2, .mv (.c (.int .i64 8)), none⟩])
   (.ret))
   (.skip)))
  (.seq (.ops false [⟨some 9, .faddr 2 (.t 1), none⟩, ⟨some 10, .load none (.t 9), none⟩, ⟨some 2, .mv (.t 10), none⟩])
  (.ret)))),
  [.t 2]⟩

end Go.Proofs.Ytfjddinibppmdaa
