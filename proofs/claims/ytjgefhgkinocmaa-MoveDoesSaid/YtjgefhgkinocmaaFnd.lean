/- The data-level reading of the functions. -/
import Derived.Test.YtjgefhgkinocmaaNkZ
set_option linter.all false
namespace Go.Proofs.Ytjgefhgkinocmaa
open Go.Nk

/- noria/norialaw41.MoveDoes -/
def d_norialaw41_MoveDoes : DFun := ⟨
  .seq (.ops false [⟨some 6, .mv (.c (.bool false)), none⟩])
  (.seq (.seq (.ops false [⟨some 20, .mv (.t 0), none⟩, ⟨some 21, .callP 4 [(.t 20)], none⟩, ⟨some 22, .un .not (.t 21), none⟩, ⟨some 23, .mv (.t 22), none⟩, ⟨some 24, .mv (.t 1), some (23, false)⟩, ⟨some 25, .len (.t 24), some (23, false)⟩, ⟨some 26, .bin .gtr (.t 25) (.c (.int .i64 1100)), some (23, false)⟩, ⟨some 27, .pick (.t 23) (.c (.bool true)) (.t 26), none⟩, ⟨some 28, .mv (.t 27), none⟩, ⟨some 29, .mv (.t 2), some (28, false)⟩, ⟨some 30, .bin .gtr (.t 29) (.c (.int .i64 3000)), some (28, false)⟩, ⟨some 31, .pick (.t 28) (.c (.bool true)) (.t 30), none⟩])
  (.cond (.t 31) (.seq (.ops false [⟨some 32, .callP 5 [], none⟩, ⟨some 6, .mv (.t 32), none⟩])
   (.ret))
   (.skip)))
  (.seq (.seq (.ops false [⟨some 7, .mv (.c (.int .i64 0)), none⟩])
  (.block 0 (.loop [0, 1, 2, 7] (some 0) (.seq (.seq (.ops false [⟨some 33, .mv (.t 7), none⟩, ⟨some 34, .mv (.t 0), none⟩, ⟨some 35, .len (.t 34), none⟩, ⟨some 36, .bin .lss (.t 33) (.t 35), none⟩])
    (.cond (.t 36) (.skip)
     (.exit 0)))
    (.seq (.block 1 (.seq (.ops false [⟨some 40, .mv (.t 0), none⟩, ⟨some 41, .mv (.t 7), none⟩, ⟨some 42, .iaddr 6 (.t 40) (.t 41), none⟩, ⟨some 43, .load (some 6) (.t 42), none⟩, ⟨some 44, .mv (.t 1), none⟩, ⟨some 45, .mv (.t 2), none⟩, ⟨some 46, .callP 6 [(.t 43), (.t 44), (.t 45)], none⟩, ⟨some 39, .mv (.t 46), none⟩, ⟨some 47, .extract 0 (.t 39), none⟩, ⟨some 48, .extract 1 (.t 39), none⟩, ⟨some 49, .extract 2 (.t 39), none⟩, ⟨some 8, .mv (.t 47), none⟩, ⟨some 9, .mv (.t 48), none⟩, ⟨some 10, .mv (.t 49), none⟩])
     (.seq (.ops false [⟨some 51, .mv (.t 0), none⟩, ⟨some 52, .mv (.t 7), none⟩, ⟨some 53, .iaddr 6 (.t 51) (.t 52), none⟩, ⟨some 54, .load (some 6) (.t 53), none⟩, ⟨some 55, .mv (.t 1), none⟩, ⟨some 56, .mv (.t 2), none⟩, ⟨some 57, .callP 7 [(.t 54), (.t 55), (.t 56)], none⟩, ⟨some 50, .mv (.t 57), none⟩, ⟨some 58, .extract 0 (.t 50), none⟩, ⟨some 59, .extract 1 (.t 50), none⟩, ⟨some 60, .extract 2 (.t 50), none⟩, ⟨some 11, .mv (.t 58), none⟩, ⟨some 12, .mv (.t 59), none⟩, ⟨some 13, .mv (.t 60), none⟩])
     (.seq (.ops false [⟨some 61, .mv (.t 8), none⟩, ⟨some 62, .mv (.t 11), none⟩, ⟨some 63, .callP 8 [(.t 61), (.t 62)], none⟩, ⟨some 64, .un .not (.t 63), none⟩, ⟨some 65, .mv (.t 64), none⟩, ⟨some 66, .mv (.t 9), some (65, false)⟩, ⟨some 67, .mv (.t 12), some (65, false)⟩, ⟨some 68, .bin .neq (.t 66) (.t 67), some (65, false)⟩, ⟨some 69, .pick (.t 65) (.c (.bool true)) (.t 68), none⟩, ⟨some 70, .mv (.t 69), none⟩, ⟨some 71, .mv (.t 10), some (70, false)⟩, ⟨some 72, .callP 9 [(.t 71)], some (70, false)⟩, ⟨some 73, .mv (.t 13), some (70, false)⟩, ⟨some 74, .bin .neq (.t 72) (.t 73), some (70, false)⟩, ⟨some 75, .pick (.t 70) (.c (.bool true)) (.t 74), none⟩])
     (.cond (.t 75) (.seq (.ops false [⟨some 6, .mv (.c (.bool false)), none⟩])
      (.ret))
      (.skip))))))
    (.ops false [⟨some 37, .mv (.t 7), none⟩, ⟨some 38, .bin .add (.t 37) (.c (.int .i64 1)), none⟩, ⟨some 7, .mv (.t 38), none⟩]))))))
  (.seq (.ops false [⟨some 77, .mv (.t 0), none⟩, ⟨some 78, .mv (.t 1), none⟩, ⟨some 79, .mv (.t 2), none⟩, ⟨some 80, .callP 10 [(.t 77), (.t 78), (.t 79)], none⟩, ⟨some 76, .mv (.t 80), none⟩, ⟨some 81, .extract 0 (.t 76), none⟩, ⟨some 82, .extract 1 (.t 76), none⟩, ⟨some 83, .extract 2 (.t 76), none⟩, ⟨some 14, .mv (.t 81), none⟩, ⟨some 15, .mv (.t 82), none⟩, ⟨some 16, .mv (.t 83), none⟩])
  (.seq (.ops false [⟨some 85, .mv (.t 0), none⟩, ⟨some 86, .mv (.t 1), none⟩, ⟨some 87, .mv (.t 2), none⟩, ⟨some 88, .callP 11 [(.t 85), (.t 86), (.t 87)], none⟩, ⟨some 84, .mv (.t 88), none⟩, ⟨some 89, .extract 0 (.t 84), none⟩, ⟨some 90, .extract 1 (.t 84), none⟩, ⟨some 91, .extract 2 (.t 84), none⟩, ⟨some 17, .mv (.t 89), none⟩, ⟨some 18, .mv (.t 90), none⟩, ⟨some 19, .mv (.t 91), none⟩])
  (.seq (.ops false [⟨some 92, .mv (.t 14), none⟩, ⟨some 93, .mv (.t 17), none⟩, ⟨some 94, .callP 8 [(.t 92), (.t 93)], none⟩, ⟨some 95, .mv (.t 94), none⟩, ⟨some 96, .mv (.t 15), some (95, true)⟩, ⟨some 97, .mv (.t 18), some (95, true)⟩, ⟨some 98, .bin .eql (.t 96) (.t 97), some (95, true)⟩, ⟨some 99, .pick (.t 95) (.t 98) (.c (.bool false)), none⟩, ⟨some 100, .mv (.t 99), none⟩, ⟨some 101, .mv (.t 16), some (100, true)⟩, ⟨some 102, .callP 9 [(.t 101)], some (100, true)⟩, ⟨some 103, .mv (.t 19), some (100, true)⟩, ⟨some 104, .bin .eql (.t 102) (.t 103), some (100, true)⟩, ⟨some 105, .pick (.t 100) (.t 104) (.c (.bool false)), none⟩, ⟨some 106, .mv (.t 105), none⟩, ⟨some 107, .callP 5 [], some (106, true)⟩, ⟨some 108, .pick (.t 106) (.t 107) (.c (.bool false)), none⟩, ⟨some 6, .mv (.t 108), none⟩])
  (.ret)))))),
  [.t 6]⟩

/- noria/noriaref40.Few -/
def d_noriaref40_Few : DFun := ⟨
  .seq (.ops false [⟨some 2, .mv (.c (.bool false)), none⟩])
  (.seq (.seq (.ops false [⟨some 3, .mv (.c (.int .i64 0)), none⟩])
  (.block 0 (.loop [0, 3] (some 0) (.seq (.seq (.ops false [⟨some 4, .mv (.t 3), none⟩, ⟨some 5, .mv (.t 0), none⟩, ⟨some 6, .len (.t 5), none⟩, ⟨some 7, .bin .lss (.t 4) (.t 6), none⟩, ⟨some 8, .mv (.t 7), none⟩, ⟨some 9, .mv (.t 3), some (8, true)⟩, ⟨some 10, .bin .lss (.t 9) (.c (.int .i64 200)), some (8, true)⟩, ⟨some 11, .pick (.t 8) (.t 10) (.c (.bool false)), none⟩])
    (.cond (.t 11) (.skip)
     (.exit 0)))
    (.seq (.block 1 (.seq (.ops false [⟨some 14, .mv (.t 0), none⟩, ⟨some 15, .mv (.t 3), none⟩, ⟨some 16, .iaddr 6 (.t 14) (.t 15), none⟩, ⟨some 17, .faddr 4 (.t 16), none⟩, ⟨some 18, .load none (.t 17), none⟩, ⟨some 19, .len (.t 18), none⟩, ⟨some 20, .bin .gtr (.t 19) (.c (.int .i64 20)), none⟩, ⟨some 21, .mv (.t 20), none⟩, ⟨some 22, .mv (.t 0), some (21, false)⟩, ⟨some 23, .mv (.t 3), some (21, false)⟩, ⟨some 24, .iaddr 6 (.t 22) (.t 23), some (21, false)⟩, ⟨some 25, .faddr 5 (.t 24), some (21, false)⟩, ⟨some 26, .load none (.t 25), some (21, false)⟩, ⟨some 27, .len (.t 26), some (21, false)⟩, ⟨some 28, .bin .gtr (.t 27) (.c (.int .i64 1500)), some (21, false)⟩, ⟨some 29, .pick (.t 21) (.c (.bool true)) (.t 28), none⟩])
     (.cond (.t 29) (.seq (.ops false [⟨some 2, .mv (.c (.bool false)), none⟩])
      (.ret))
      (.skip))))
    (.ops false [⟨some 12, .mv (.t 3), none⟩, ⟨some 13, .bin .add (.t 12) (.c (.int .i64 1)), none⟩, ⟨some 3, .mv (.t 13), none⟩]))))))
  (.seq (.ops false [⟨some 30, .mv (.t 0), none⟩, ⟨some 31, .len (.t 30), none⟩, ⟨some 32, .bin .leq (.t 31) (.c (.int .i64 150)), none⟩, ⟨some 2, .mv (.t 32), none⟩])
  (.ret))),
  [.t 2]⟩

/- noria/norialaw41.live -/
def d_norialaw41_live : DFun := ⟨
  .seq (.ops false [⟨some 0, .mv (.c (.bool false)), none⟩])
  (.seq (.ops false [⟨some 5, .build [.int .i64 0, .int .i64 0, .int .i64 0, .int .i64 0, .nil, .nil] [(0, 1, (.c (.int .i64 1))), (2, 1, (.c (.int .i64 2))), (3, 1, (.c (.int .i64 1)))], none⟩, ⟨some 6, .bslice true [.int .i64 0] [(some (.c (.int .i64 7))), (some (.c (.int .i64 8))), (some (.c (.int .i64 9)))], none⟩, ⟨some 7, .callP 6 [(.t 5), (.t 6), (.c (.int .i64 0))], none⟩, ⟨some 4, .mv (.t 7), none⟩, ⟨some 8, .extract 0 (.t 4), none⟩, ⟨some 9, .extract 1 (.t 4), none⟩, ⟨some 10, .extract 2 (.t 4), none⟩, ⟨some 1, .mv (.t 8), none⟩, ⟨some 2, .mv (.t 9), none⟩, ⟨some 3, .mv (.t 10), none⟩])
  (.seq (.ops false [⟨some 11, .mv (.t 3), none⟩, ⟨some 12, .callP 9 [(.t 11)], none⟩, ⟨some 13, .bin .eql (.t 12) (.c (.int .i64 0)), none⟩, ⟨some 14, .mv (.t 13), none⟩, ⟨some 15, .mv (.t 2), some (14, true)⟩, ⟨some 16, .bin .eql (.t 15) (.c (.int .i64 0)), some (14, true)⟩, ⟨some 17, .pick (.t 14) (.t 16) (.c (.bool false)), none⟩, ⟨some 18, .mv (.t 17), none⟩, ⟨some 19, .mv (.t 1), some (18, true)⟩, ⟨some 20, .bslice true [.int .i64 0] [(some (.c (.int .i64 8))), (some (.c (.int .i64 9)))], some (18, true)⟩, ⟨some 21, .callP 8 [(.t 19), (.t 20)], some (18, true)⟩, ⟨some 22, .pick (.t 18) (.t 21) (.c (.bool false)), none⟩, ⟨some 0, .mv (.t 22), none⟩])
  (.ret))),
  [.t 0]⟩

/- noria/move.One -/
def d_move_One : DFun := ⟨
  .seq (.ops false [⟨some 3, .bref (.t 0), none⟩, ⟨some 6, .mv (.c (.nil)), none⟩, ⟨some 7, .mv (.c (.int .i64 0)), none⟩, ⟨some 8, .mv (.c (.int .i64 0)), none⟩])
  (.seq (.ops false [⟨some 11, .load (some 6) (.t 3), none⟩, ⟨some 9, .alloc [.int .i64 0, .int .i64 0, .int .i64 0, .int .i64 0, .nil, .nil], none⟩, ⟨none, .store 6 (.t 9) (.t 11), none⟩])
  (.seq (.ops false [⟨some 12, .faddr 1 (.t 9), none⟩, ⟨none, .store 1 (.t 12) (.c (.int .i64 0)), none⟩])
  (.seq (.seq (.ops false [⟨some 13, .load (some 6) (.t 9), none⟩, ⟨some 14, .bslice true [.int .i64 0, .int .i64 0, .int .i64 0, .int .i64 0, .nil, .nil] [(some (.t 13))], none⟩, ⟨some 15, .mv (.t 1), none⟩, ⟨some 16, .len (.t 15), none⟩, ⟨some 17, .callP 12 [(.t 14), (.t 16)], none⟩, ⟨some 18, .un .not (.t 17), none⟩])
  (.cond (.t 18) (.seq (.ops false [⟨some 6, .mv (.c (.nil)), none⟩, ⟨some 7, .mv (.c (.int .i64 0)), none⟩, ⟨some 8, .mv (.c (.int .i64 1)), none⟩])
   (.ret))
   (.skip)))
  (.seq (.ops false [⟨some 19, .load (some 6) (.t 3), none⟩, ⟨some 20, .mv (.t 1), none⟩, ⟨some 21, .mv (.t 2), none⟩, ⟨some 22, .callP 13 [(.t 19), (.t 20), (.t 21)], none⟩, ⟨some 10, .alloc [.nil, .int .i64 0, .int .i64 0], none⟩, ⟨none, .store 3 (.t 10) (.t 22), none⟩])
  (.seq (.ops true [⟨some 23, .faddr 0 (.t 10), none⟩, ⟨some 24, .load none (.t 23), none⟩, ⟨some 25, .faddr 1 (.t 10), none⟩, ⟨some 26, .load none (.t 25), none⟩, ⟨some 27, .faddr 2 (.t 10), none⟩, ⟨some 28, .load none (.t 27), none⟩, ⟨some 6, .mv (.t 24), none⟩, ⟨some 7, .mv (.t 26), none⟩, ⟨some 8, .mv (.t 28), none⟩])
  (.ret)))))),
  [.t 6, .t 7, .t 8]⟩

/- noria/noriaref41.One -/
def d_noriaref41_One : DFun := ⟨
  .seq (.ops false [⟨some 3, .bref (.t 0), none⟩, ⟨some 6, .mv (.c (.nil)), none⟩, ⟨some 7, .mv (.c (.int .i64 0)), none⟩, ⟨some 8, .mv (.c (.int .i64 0)), none⟩])
  (.seq (.ops false [⟨some 14, .load (some 6) (.t 3), none⟩, ⟨some 9, .alloc [.int .i64 0, .int .i64 0, .int .i64 0, .int .i64 0, .nil, .nil], none⟩, ⟨none, .store 6 (.t 9) (.t 14), none⟩])
  (.seq (.ops false [⟨some 15, .faddr 1 (.t 9), none⟩, ⟨none, .store 1 (.t 15) (.c (.int .i64 0)), none⟩])
  (.seq (.seq (.ops false [⟨some 16, .load (some 6) (.t 9), none⟩, ⟨some 17, .bslice true [.int .i64 0, .int .i64 0, .int .i64 0, .int .i64 0, .nil, .nil] [(some (.t 16))], none⟩, ⟨some 18, .mv (.t 1), none⟩, ⟨some 19, .len (.t 18), none⟩, ⟨some 20, .callP 14 [(.t 17), (.t 19)], none⟩, ⟨some 21, .un .not (.t 20), none⟩])
  (.cond (.t 21) (.seq (.ops false [⟨some 6, .mv (.c (.nil)), none⟩, ⟨some 7, .mv (.c (.int .i64 0)), none⟩, ⟨some 8, .mv (.c (.int .i64 1)), none⟩])
   (.ret))
   (.skip)))
  (.seq (.seq (.ops false [⟨some 22, .faddr 0 (.t 3), none⟩, ⟨some 23, .load none (.t 22), none⟩, ⟨some 24, .bin .eql (.t 23) (.c (.int .i64 1)), none⟩])
  (.cond (.t 24) (.seq (.ops false [⟨some 25, .mv (.t 1), none⟩, ⟨some 26, .faddr 3 (.t 3), none⟩, ⟨some 27, .load none (.t 26), none⟩, ⟨some 28, .faddr 3 (.t 3), none⟩, ⟨some 29, .load none (.t 28), none⟩, ⟨some 30, .faddr 2 (.t 3), none⟩, ⟨some 31, .load none (.t 30), none⟩, ⟨some 32, .bin .add (.t 29) (.t 31), none⟩, ⟨some 33, .slice 1 (.t 25) (some (.t 27)) (some (.t 32)) none, none⟩, ⟨some 6, .mv (.t 33), none⟩, ⟨some 7, .mv (.c (.int .i64 0)), none⟩, ⟨some 8, .mv (.c (.int .i64 0)), none⟩])
   (.ret))
   (.skip)))
  (.seq (.seq (.ops false [⟨some 34, .faddr 0 (.t 3), none⟩, ⟨some 35, .load none (.t 34), none⟩, ⟨some 36, .bin .eql (.t 35) (.c (.int .i64 2)), none⟩])
  (.cond (.t 36) (.seq (.ops false [⟨some 37, .faddr 4 (.t 3), none⟩, ⟨some 38, .load none (.t 37), none⟩, ⟨some 6, .mv (.t 38), none⟩, ⟨some 7, .mv (.c (.int .i64 0)), none⟩, ⟨some 8, .mv (.c (.int .i64 0)), none⟩])
   (.ret))
   (.skip)))
  (.seq (.opsP [(1, ⟨some 40, .mv (.t 1), none⟩), (3, ⟨some 42, .im (.faddr 2 (.t 3)), none⟩), (4, ⟨some 43, .im (.load none (.t 42)), none⟩), (0, ⟨some 39, .bslice false [.int .i64 0] [], none⟩), (2, ⟨some 41, .append 1 (.t 39) (.t 40), none⟩), (5, ⟨some 44, .appz 1 [.int .i64 0] (.t 41) (.t 43), none⟩), (6, ⟨some 10, .mv (.t 44), none⟩)])
  (.seq (.ops false [⟨some 46, .faddr 5 (.t 3), none⟩, ⟨some 47, .load none (.t 46), none⟩, ⟨some 48, .mv (.t 10), none⟩, ⟨some 49, .mv (.t 2), none⟩, ⟨some 50, .callP 15 [(.t 47), (.t 48), (.t 49)], none⟩, ⟨some 45, .mv (.t 50), none⟩, ⟨some 51, .extract 0 (.t 45), none⟩, ⟨some 52, .extract 1 (.t 45), none⟩, ⟨some 53, .extract 2 (.t 45), none⟩, ⟨some 11, .mv (.t 51), none⟩, ⟨some 12, .mv (.t 52), none⟩, ⟨some 13, .mv (.t 53), none⟩])
  (.seq (.seq (.ops false [⟨some 54, .mv (.t 13), none⟩, ⟨some 55, .bin .neq (.t 54) (.c (.int .i64 0)), none⟩])
  (.cond (.t 55) (.seq (.ops false [⟨some 56, .mv (.t 12), none⟩, ⟨some 57, .mv (.t 13), none⟩, ⟨some 6, .mv (.c (.nil)), none⟩, ⟨some 7, .mv (.t 56), none⟩, ⟨some 8, .mv (.t 57), none⟩])
   (.ret))
   (.skip)))
  (.seq (.ops false [⟨some 58, .mv (.t 11), none⟩, ⟨some 59, .mv (.t 1), none⟩, ⟨some 60, .len (.t 59), none⟩, ⟨some 61, .slice 1 (.t 58) (some (.t 60)) none none, none⟩, ⟨some 62, .mv (.t 12), none⟩, ⟨some 6, .mv (.t 61), none⟩, ⟨some 7, .mv (.t 62), none⟩, ⟨some 8, .mv (.c (.int .i64 0)), none⟩])
  (.ret)))))))))),
  [.t 6, .t 7, .t 8]⟩

/- noria/noriaref01.Vals -/
def d_noriaref01_Vals : DFun := ⟨
  .seq (.ops false [⟨some 4, .mv (.c (.bool false)), none⟩])
  (.seq (.seq (.ops false [⟨some 6, .mv (.t 0), none⟩, ⟨some 7, .len (.t 6), none⟩, ⟨some 8, .mv (.t 1), none⟩, ⟨some 9, .len (.t 8), none⟩, ⟨some 10, .bin .neq (.t 7) (.t 9), none⟩])
  (.cond (.t 10) (.seq (.ops false [⟨some 4, .mv (.c (.bool false)), none⟩])
   (.ret))
   (.skip)))
  (.seq (.seq (.ops false [⟨some 5, .mv (.c (.int .i64 0)), none⟩])
  (.block 0 (.loop [0, 1, 5] (some 0) (.seq (.seq (.ops false [⟨some 11, .mv (.t 5), none⟩, ⟨some 12, .mv (.t 0), none⟩, ⟨some 13, .len (.t 12), none⟩, ⟨some 14, .bin .lss (.t 11) (.t 13), none⟩])
    (.cond (.t 14) (.skip)
     (.exit 0)))
    (.seq (.block 1 (.seq (.ops true [⟨some 17, .mv (.t 0), none⟩, ⟨some 18, .mv (.t 5), none⟩, ⟨some 19, .iaddr 1 (.t 17) (.t 18), none⟩, ⟨some 20, .load none (.t 19), none⟩, ⟨some 21, .mv (.t 1), none⟩, ⟨some 22, .mv (.t 5), none⟩, ⟨some 23, .iaddr 1 (.t 21) (.t 22), none⟩, ⟨some 24, .load none (.t 23), none⟩, ⟨some 25, .bin .neq (.t 20) (.t 24), none⟩])
     (.cond (.t 25) (.seq (.ops false [⟨some 4, .mv (.c (.bool false)), none⟩])
      (.ret))
      (.skip))))
    (.ops false [⟨some 15, .mv (.t 5), none⟩, ⟨some 16, .bin .add (.t 15) (.c (.int .i64 1)), none⟩, ⟨some 5, .mv (.t 16), none⟩]))))))
  (.seq (.ops false [⟨some 4, .mv (.c (.bool true)), none⟩])
  (.ret)))),
  [.t 4]⟩

/- noria/norialaw41.num -/
def d_norialaw41_num : DFun := ⟨
  .seq (.ops false [⟨some 2, .mv (.c (.int .i64 0)), none⟩])
  (.seq (.ops false [⟨some 3, .mv (.t 0), none⟩, ⟨some 2, .mv (.t 3), none⟩])
  (.ret)),
  [.t 2]⟩

/- noria/move.All -/
def d_move_All : DFun := ⟨
  .seq (.ops false [⟨some 6, .alloc [.nil], none⟩, ⟨some 7, .alloc [.int .i64 0], none⟩, ⟨some 8, .alloc [.int .i64 0], none⟩])
  (.seq (.seq (.ops false [⟨some 12, .mv (.t 0), none⟩, ⟨some 13, .mv (.t 1), none⟩, ⟨some 14, .len (.t 13), none⟩, ⟨some 15, .callP 12 [(.t 12), (.t 14)], none⟩, ⟨some 16, .un .not (.t 15), none⟩])
  (.cond (.t 16) (.seq (.ops false [⟨none, .store 1 (.t 6) (.c (.nil)), none⟩, ⟨none, .store 1 (.t 7) (.c (.int .i64 0)), none⟩, ⟨none, .store 1 (.t 8) (.c (.int .i64 1)), none⟩])
   (.ret))
   (.skip)))
  (.seq (.ops false [⟨some 9, .alloc [.nil], none⟩])
  (.seq (.ops false [⟨some 10, .alloc [.int .i64 0], none⟩, ⟨none, .store 1 (.t 10) (.c (.int .i64 0)), none⟩])
  (.gown 9 0 1 (.seq (.seq (.ops false [⟨some 17, .mv (.t 0), none⟩, ⟨some 18, .mv (.t 1), none⟩, ⟨some 19, .mv (.t 2), none⟩, ⟨some 20, .callH 16 [(.t 17), (.t 18), (.t 19)], none⟩])
  (.block 0 (.rangeF [6, 7, 8, 9, 10] (some 7) (.t 20) [21] (.ops false [⟨some 11, .alloc [.nil, .int .i64 0, .int .i64 0], none⟩, ⟨none, .store 3 (.t 11) (.t 21), none⟩]) (.block 1 (.seq (.ops false [⟨some 22, .load none (.t 10), none⟩, ⟨some 23, .faddr 1 (.t 11), none⟩, ⟨some 24, .load none (.t 23), none⟩, ⟨some 25, .bin .add (.t 22) (.t 24), none⟩, ⟨none, .store 1 (.t 10) (.t 25), none⟩])
     (.seq (.seq (.ops false [⟨some 26, .faddr 2 (.t 11), none⟩, ⟨some 27, .load none (.t 26), none⟩, ⟨some 28, .bin .neq (.t 27) (.c (.int .i64 0)), none⟩])
     (.cond (.t 28) (.seq (.opsS [(10, 6), (11, 6), (11, 7), (30, 6), (30, 7)] [(0, ⟨some 29, .load none (.t 10), none⟩), (1, ⟨some 30, .faddr 2 (.t 11), none⟩), (2, ⟨some 31, .load none (.t 30), none⟩), (3, ⟨none, .to 6 (.store 1 (.t 6) (.c (.nil))), none⟩), (4, ⟨none, .to 7 (.store 1 (.t 7) (.t 29)), none⟩), (5, ⟨none, .store 1 (.t 8) (.t 31), none⟩)])
      (.ret))
      (.skip)))
     (.ops false [⟨some 32, .load none (.t 9), none⟩, ⟨some 33, .faddr 0 (.t 11), none⟩, ⟨some 34, .load none (.t 33), none⟩, ⟨some 35, .append 1 (.t 32) (.t 34), none⟩, ⟨none, .store 1 (.t 9) (.t 35), none⟩])))))))
  (.seq (.opsS [(10, 6)] [(0, ⟨some 36, .load none (.t 9), none⟩), (1, ⟨some 37, .load none (.t 10), none⟩), (2, ⟨none, .to 6 (.store 1 (.t 6) (.t 36)), none⟩), (3, ⟨none, .store 1 (.t 7) (.t 37), none⟩), (4, ⟨none, .store 1 (.t 8) (.c (.int .i64 0)), none⟩)])
  (.ret))))))),
  [.cell 6 none, .cell 7 none, .cell 8 none]⟩

/- noria/noriaref41.All -/
def d_noriaref41_All : DFun := ⟨
  .seq (.ops false [⟨some 6, .mv (.c (.nil)), none⟩, ⟨some 7, .mv (.c (.int .i64 0)), none⟩, ⟨some 8, .mv (.c (.int .i64 0)), none⟩])
  (.seq (.seq (.ops false [⟨some 15, .mv (.t 0), none⟩, ⟨some 16, .mv (.t 1), none⟩, ⟨some 17, .len (.t 16), none⟩, ⟨some 18, .callP 14 [(.t 15), (.t 17)], none⟩, ⟨some 19, .un .not (.t 18), none⟩])
  (.cond (.t 19) (.seq (.ops false [⟨some 6, .mv (.c (.nil)), none⟩, ⟨some 7, .mv (.c (.int .i64 0)), none⟩, ⟨some 8, .mv (.c (.int .i64 1)), none⟩])
   (.ret))
   (.skip)))
  (.seq (.ops false [⟨some 20, .bslice false [.int .i64 0] [], none⟩, ⟨some 9, .mv (.t 20), none⟩])
  (.seq (.ops false [⟨some 10, .mv (.c (.int .i64 0)), none⟩])
  (.seq (.seq (.ops false [⟨some 11, .mv (.c (.int .i64 0)), none⟩])
  (.block 0 (.loop [0, 1, 2, 9, 10, 11] (some 1) (.seq (.seq (.ops false [⟨some 21, .mv (.t 11), none⟩, ⟨some 22, .mv (.t 0), none⟩, ⟨some 23, .len (.t 22), none⟩, ⟨some 24, .bin .lss (.t 21) (.t 23), none⟩])
    (.cond (.t 24) (.skip)
     (.exit 0)))
    (.seq (.block 1 (.seq (.ops false [⟨some 28, .mv (.t 0), none⟩, ⟨some 29, .mv (.t 11), none⟩, ⟨some 30, .iaddr 6 (.t 28) (.t 29), none⟩, ⟨some 31, .load (some 6) (.t 30), none⟩, ⟨some 32, .mv (.t 1), none⟩, ⟨some 33, .mv (.t 2), none⟩, ⟨some 34, .mv (.t 10), none⟩, ⟨some 35, .bin .sub (.t 33) (.t 34), none⟩, ⟨some 36, .callP 7 [(.t 31), (.t 32), (.t 35)], none⟩, ⟨some 27, .mv (.t 36), none⟩, ⟨some 37, .extract 0 (.t 27), none⟩, ⟨some 38, .extract 1 (.t 27), none⟩, ⟨some 39, .extract 2 (.t 27), none⟩, ⟨some 12, .mv (.t 37), none⟩, ⟨some 13, .mv (.t 38), none⟩, ⟨some 14, .mv (.t 39), none⟩])
     (.seq (.ops false [⟨some 40, .mv (.t 10), none⟩, ⟨some 41, .mv (.t 13), none⟩, ⟨some 42, .bin .add (.t 40) (.t 41), none⟩, ⟨some 10, .mv (.t 42), none⟩])
     (.seq (.seq (.ops false [⟨some 43, .mv (.t 14), none⟩, ⟨some 44, .bin .neq (.t 43) (.c (.int .i64 0)), none⟩])
     (.cond (.t 44) (.seq (.ops false [⟨some 45, .mv (.t 10), none⟩, ⟨some 46, .mv (.t 14), none⟩, ⟨some 6, .mv (.c (.nil)), none⟩, ⟨some 7, .mv (.t 45), none⟩, ⟨some 8, .mv (.t 46), none⟩])
      (.ret))
      (.skip)))
     (.ops false [⟨some 47, .mv (.t 9), none⟩, ⟨some 48, .mv (.t 12), none⟩, ⟨some 49, .append 1 (.t 47) (.t 48), none⟩, ⟨some 9, .mv (.t 49), none⟩])))))
    (.ops false [⟨some 25, .mv (.t 11), none⟩, ⟨some 26, .bin .add (.t 25) (.c (.int .i64 1)), none⟩, ⟨some 11, .mv (.t 26), none⟩]))))))
  (.seq (.ops false [⟨some 50, .mv (.t 9), none⟩, ⟨some 51, .mv (.t 10), none⟩, ⟨some 6, .mv (.t 50), none⟩, ⟨some 7, .mv (.t 51), none⟩, ⟨some 8, .mv (.c (.int .i64 0)), none⟩])
  (.ret)))))),
  [.t 6, .t 7, .t 8]⟩

/- noria/plan.Right -/
def d_plan_Right : DFun := ⟨
  .seq (.ops false [⟨some 4, .mv (.c (.bool false)), none⟩])
  (.seq (.ops false [⟨some 5, .mv (.c (.int .i64 0)), none⟩])
  (.seq (.seq (.ops false [⟨some 8, .mv (.t 0), none⟩, ⟨some 9, .len (.t 8), none⟩, ⟨some 10, .mv (.c (.int .i64 0)), none⟩])
  (.block 0 (.loop [1, 5, 8, 9, 10] (some 0) (.seq (.ops false [⟨some 11, .bin .lss (.t 10) (.t 9), none⟩])
    (.seq (.cond (.t 11) (.skip)
     (.exit 0))
    (.seq (.block 1 (.seq (.ops false [⟨some 12, .iaddr 6 (.t 8) (.t 10), none⟩, ⟨some 13, .load (some 6) (.t 12), none⟩, ⟨some 7, .alloc [.int .i64 0, .int .i64 0, .int .i64 0, .int .i64 0, .nil, .nil], none⟩, ⟨none, .store 6 (.t 7) (.t 13), none⟩])
     (.seq (.seq (.ops false [⟨some 14, .load (some 6) (.t 7), none⟩, ⟨some 15, .mv (.t 5), none⟩, ⟨some 16, .mv (.t 1), none⟩, ⟨some 17, .callP 17 [(.t 14), (.t 15), (.t 16)], none⟩, ⟨some 18, .un .not (.t 17), none⟩])
     (.cond (.t 18) (.seq (.ops false [⟨some 4, .mv (.c (.bool false)), none⟩])
      (.ret))
      (.skip)))
     (.ops false [⟨some 19, .mv (.t 5), none⟩, ⟨some 20, .faddr 2 (.t 7), none⟩, ⟨some 21, .load none (.t 20), none⟩, ⟨some 22, .bin .add (.t 19) (.t 21), none⟩, ⟨some 5, .mv (.t 22), none⟩]))))
    (.ops false [⟨some 23, .bin .add (.t 10) (.c (.int .i64 1)), none⟩, ⟨some 10, .mv (.t 23), none⟩])))))))
  (.seq (.ops false [⟨some 4, .mv (.c (.bool true)), none⟩])
  (.ret)))),
  [.t 4]⟩

/- noria/move.one -/
def d_move_one : DFun := ⟨
  .seq (.ops false [⟨some 3, .bref (.t 0), none⟩, ⟨some 6, .alloc [.nil, .int .i64 0, .int .i64 0], none⟩])
  (.seq (.seq (.ops false [⟨some 7, .faddr 0 (.t 3), none⟩, ⟨some 8, .load none (.t 7), none⟩])
  (.block 0 (.seq (.ops false [⟨some 10, .bin .eql (.t 8) (.c (.int .i64 1)), none⟩, ⟨some 9, .mv (.t 10), none⟩])
   (.cond (.t 9) (.seq (.ops false [⟨some 11, .mv (.t 1), none⟩, ⟨some 12, .faddr 3 (.t 3), none⟩, ⟨some 13, .load none (.t 12), none⟩, ⟨some 14, .faddr 3 (.t 3), none⟩, ⟨some 15, .load none (.t 14), none⟩, ⟨some 16, .faddr 2 (.t 3), none⟩, ⟨some 17, .load none (.t 16), none⟩, ⟨some 18, .bin .add (.t 15) (.t 17), none⟩, ⟨some 19, .slice 1 (.t 11) (some (.t 13)) (some (.t 18)) none, none⟩, ⟨some 20, .callP 18 [(.t 19)], none⟩, ⟨some 21, .build [.nil, .int .i64 0, .int .i64 0] [(0, 1, (.t 20))], none⟩, ⟨none, .store 3 (.t 6) (.t 21), none⟩])
    (.ret))
    (.seq (.ops false [⟨some 23, .bin .eql (.t 8) (.c (.int .i64 2)), none⟩, ⟨some 22, .mv (.t 23), none⟩])
    (.cond (.t 22) (.seq (.ops false [⟨some 24, .faddr 4 (.t 3), none⟩, ⟨some 25, .load none (.t 24), none⟩, ⟨some 26, .callP 18 [(.t 25)], none⟩, ⟨some 27, .build [.nil, .int .i64 0, .int .i64 0] [(0, 1, (.t 26))], none⟩, ⟨none, .store 3 (.t 6) (.t 27), none⟩])
     (.ret))
     (.skip)))))))
  (.seq (.ops false [⟨some 28, .load (some 6) (.t 3), none⟩, ⟨some 29, .mv (.t 1), none⟩, ⟨some 30, .mv (.t 2), none⟩, ⟨some 31, .callP 19 [(.t 28), (.t 29), (.t 30)], none⟩, ⟨none, .store 3 (.t 6) (.t 31), none⟩])
  (.ret))),
  [.cell 6 (some 3)]⟩

/- noria/noriaref40.Right -/
def d_noriaref40_Right : DFun := ⟨
  .seq (.ops false [⟨some 4, .mv (.c (.bool false)), none⟩])
  (.seq (.ops false [⟨some 5, .mv (.c (.int .i64 0)), none⟩])
  (.seq (.seq (.ops false [⟨some 6, .mv (.c (.int .i64 0)), none⟩])
  (.block 0 (.loop [0, 1, 5, 6] (some 0) (.seq (.seq (.ops false [⟨some 8, .mv (.t 6), none⟩, ⟨some 9, .mv (.t 0), none⟩, ⟨some 10, .len (.t 9), none⟩, ⟨some 11, .bin .lss (.t 8) (.t 10), none⟩])
    (.cond (.t 11) (.skip)
     (.exit 0)))
    (.seq (.block 1 (.seq (.ops false [⟨some 14, .mv (.t 0), none⟩, ⟨some 15, .mv (.t 6), none⟩, ⟨some 16, .iaddr 6 (.t 14) (.t 15), none⟩, ⟨some 17, .load (some 6) (.t 16), none⟩, ⟨some 7, .alloc [.int .i64 0, .int .i64 0, .int .i64 0, .int .i64 0, .nil, .nil], none⟩, ⟨none, .store 6 (.t 7) (.t 17), none⟩])
     (.seq (.seq (.ops false [⟨some 18, .faddr 0 (.t 7), none⟩, ⟨some 19, .load none (.t 18), none⟩, ⟨some 20, .bin .lss (.t 19) (.c (.int .i64 1)), none⟩, ⟨some 21, .mv (.t 20), none⟩, ⟨some 22, .faddr 0 (.t 7), some (21, false)⟩, ⟨some 23, .load none (.t 22), some (21, false)⟩, ⟨some 24, .bin .gtr (.t 23) (.c (.int .i64 3)), some (21, false)⟩, ⟨some 25, .pick (.t 21) (.c (.bool true)) (.t 24), none⟩, ⟨some 26, .mv (.t 25), none⟩, ⟨some 27, .faddr 2 (.t 7), some (26, false)⟩, ⟨some 28, .load none (.t 27), some (26, false)⟩, ⟨some 29, .bin .lss (.t 28) (.c (.int .i64 1)), some (26, false)⟩, ⟨some 30, .pick (.t 26) (.c (.bool true)) (.t 29), none⟩, ⟨some 31, .mv (.t 30), none⟩, ⟨some 32, .faddr 2 (.t 7), some (31, false)⟩, ⟨some 33, .load none (.t 32), some (31, false)⟩, ⟨some 34, .bin .gtr (.t 33) (.c (.int .i64 8)), some (31, false)⟩, ⟨some 35, .pick (.t 31) (.c (.bool true)) (.t 34), none⟩, ⟨some 36, .mv (.t 35), none⟩, ⟨some 37, .faddr 1 (.t 7), some (36, false)⟩, ⟨some 38, .load none (.t 37), some (36, false)⟩, ⟨some 39, .mv (.t 5), some (36, false)⟩, ⟨some 40, .bin .neq (.t 38) (.t 39), some (36, false)⟩, ⟨some 41, .pick (.t 36) (.c (.bool true)) (.t 40), none⟩])
     (.cond (.t 41) (.seq (.ops false [⟨some 4, .mv (.c (.bool false)), none⟩])
      (.ret))
      (.skip)))
     (.seq (.ops false [⟨some 42, .mv (.t 5), none⟩, ⟨some 43, .faddr 2 (.t 7), none⟩, ⟨some 44, .load none (.t 43), none⟩, ⟨some 45, .bin .add (.t 42) (.t 44), none⟩, ⟨some 5, .mv (.t 45), none⟩])
     (.seq (.ops false [⟨some 46, .mv (.t 5), none⟩, ⟨some 47, .bin .gtr (.t 46) (.c (.int .i64 1000)), none⟩, ⟨some 48, .mv (.t 47), none⟩, ⟨some 49, .faddr 0 (.t 7), some (48, false)⟩, ⟨some 50, .load none (.t 49), some (48, false)⟩, ⟨some 51, .bin .eql (.t 50) (.c (.int .i64 1)), some (48, false)⟩, ⟨some 52, .mv (.t 51), some (48, false)⟩, ⟨some 53, .faddr 3 (.t 7), some (52, true)⟩, ⟨some 54, .load none (.t 53), some (52, true)⟩, ⟨some 55, .bin .lss (.t 54) (.c (.int .i64 0)), some (52, true)⟩, ⟨some 56, .mv (.t 55), some (52, true)⟩, ⟨some 57, .faddr 3 (.t 7), some (56, false)⟩, ⟨some 58, .load none (.t 57), some (56, false)⟩, ⟨some 59, .mv (.t 1), some (56, false)⟩, ⟨some 60, .bin .gtr (.t 58) (.t 59), some (56, false)⟩, ⟨some 61, .pick (.t 56) (.c (.bool true)) (.t 60), some (52, true)⟩, ⟨some 62, .mv (.t 61), some (52, true)⟩, ⟨some 63, .faddr 2 (.t 7), some (62, false)⟩, ⟨some 64, .load none (.t 63), some (62, false)⟩, ⟨some 65, .mv (.t 1), some (62, false)⟩, ⟨some 66, .faddr 3 (.t 7), some (62, false)⟩, ⟨some 67, .load none (.t 66), some (62, false)⟩, ⟨some 68, .bin .sub (.t 65) (.t 67), some (62, false)⟩, ⟨some 69, .bin .gtr (.t 64) (.t 68), some (62, false)⟩, ⟨some 70, .pick (.t 62) (.c (.bool true)) (.t 69), some (52, true)⟩, ⟨some 71, .pick (.t 52) (.t 70) (.c (.bool false)), some (48, false)⟩, ⟨some 72, .pick (.t 48) (.c (.bool true)) (.t 71), none⟩, ⟨some 73, .mv (.t 72), none⟩, ⟨some 74, .faddr 0 (.t 7), some (73, false)⟩, ⟨some 75, .load none (.t 74), some (73, false)⟩, ⟨some 76, .bin .eql (.t 75) (.c (.int .i64 2)), some (73, false)⟩, ⟨some 77, .mv (.t 76), some (73, false)⟩, ⟨some 78, .faddr 4 (.t 7), some (77, true)⟩, ⟨some 79, .load none (.t 78), some (77, true)⟩, ⟨some 80, .len (.t 79), some (77, true)⟩, ⟨some 81, .faddr 2 (.t 7), some (77, true)⟩, ⟨some 82, .load none (.t 81), some (77, true)⟩, ⟨some 83, .bin .neq (.t 80) (.t 82), some (77, true)⟩, ⟨some 84, .pick (.t 77) (.t 83) (.c (.bool false)), some (73, false)⟩, ⟨some 85, .pick (.t 73) (.c (.bool true)) (.t 84), none⟩])
     (.cond (.t 85) (.seq (.ops false [⟨some 4, .mv (.c (.bool false)), none⟩])
      (.ret))
      (.skip)))))))
    (.ops false [⟨some 12, .mv (.t 6), none⟩, ⟨some 13, .bin .add (.t 12) (.c (.int .i64 1)), none⟩, ⟨some 6, .mv (.t 13), none⟩]))))))
  (.seq (.ops false [⟨some 4, .mv (.c (.bool true)), none⟩])
  (.ret)))),
  [.t 4]⟩

/- noria/noriaref30.Run -/
def d_noriaref30_Run : DFun := ⟨
  .seq (.ops false [⟨some 6, .mv (.c (.nil)), none⟩, ⟨some 7, .mv (.c (.int .i64 0)), none⟩, ⟨some 8, .mv (.c (.int .i64 0)), none⟩])
  (.seq (.ops false [⟨some 11, .bslice false [.int .i64 0] [], none⟩, ⟨some 12, .mv (.t 1), none⟩, ⟨some 13, .append 1 (.t 11) (.t 12), none⟩, ⟨some 14, .build [.nil, .sl [], .int .i64 0, .int .i64 0] [(0, 1, (.t 13))], none⟩, ⟨some 15, .box (.t 14), none⟩, ⟨some 9, .mv (.t 15), none⟩])
  (.seq (.ops false [⟨some 10, .mv (.c (.int .i64 0)), none⟩])
  (.seq (.block 0 (.loop [0, 1, 2, 9, 10] (some 2) (.seq (.seq (.ops false [⟨some 16, .mv (.t 9), none⟩, ⟨some 17, .nilck (.t 16), none⟩, ⟨some 18, .faddr 3 (.t 17), none⟩, ⟨some 19, .load none (.t 18), none⟩, ⟨some 20, .bin .eql (.t 19) (.c (.int .i64 0)), none⟩])
    (.cond (.t 20) (.skip)
     (.exit 0)))
    (.block 1 (.seq (.seq (.ops false [⟨some 21, .mv (.t 9), none⟩, ⟨some 22, .nilck (.t 21), none⟩, ⟨some 23, .faddr 2 (.t 22), none⟩, ⟨some 24, .load none (.t 23), none⟩, ⟨some 25, .mv (.t 0), none⟩, ⟨some 26, .len (.t 25), none⟩, ⟨some 27, .bin .geq (.t 24) (.t 26), none⟩])
     (.cond (.t 27) (.seq (.ops false [⟨some 28, .mv (.t 1), none⟩, ⟨some 29, .mv (.t 10), none⟩, ⟨some 6, .mv (.t 28), none⟩, ⟨some 7, .mv (.t 29), none⟩, ⟨some 8, .mv (.c (.int .i64 13)), none⟩])
      (.ret))
      (.skip)))
     (.seq (.seq (.ops false [⟨some 30, .mv (.t 10), none⟩, ⟨some 31, .mv (.t 2), none⟩, ⟨some 32, .bin .geq (.t 30) (.t 31), none⟩])
     (.cond (.t 32) (.seq (.ops false [⟨some 33, .mv (.t 1), none⟩, ⟨some 34, .mv (.t 10), none⟩, ⟨some 6, .mv (.t 33), none⟩, ⟨some 7, .mv (.t 34), none⟩, ⟨some 8, .mv (.c (.int .i64 17)), none⟩])
      (.ret))
      (.skip)))
     (.seq (.ops false [⟨some 35, .mv (.t 10), none⟩, ⟨some 36, .bin .add (.t 35) (.c (.int .i64 1)), none⟩, ⟨some 10, .mv (.t 36), none⟩])
     (.seq (.seq (.ops false [⟨some 37, .mv (.t 0), none⟩, ⟨some 38, .mv (.t 9), none⟩, ⟨some 39, .nilck (.t 38), none⟩, ⟨some 40, .faddr 2 (.t 39), none⟩, ⟨some 41, .load none (.t 40), none⟩, ⟨some 42, .iaddr 4 (.t 37) (.t 41), none⟩, ⟨some 43, .load (some 4) (.t 42), none⟩, ⟨some 44, .callP 20 [(.t 43)], none⟩, ⟨some 45, .un .not (.t 44), none⟩])
     (.cond (.t 45) (.seq (.ops false [⟨some 46, .mv (.t 1), none⟩, ⟨some 47, .mv (.t 10), none⟩, ⟨some 6, .mv (.t 46), none⟩, ⟨some 7, .mv (.t 47), none⟩, ⟨some 8, .mv (.c (.int .i64 13)), none⟩])
      (.ret))
      (.skip)))
     (.ops false [⟨some 48, .mv (.t 9), none⟩, ⟨some 49, .mv (.t 0), none⟩, ⟨some 50, .mv (.t 9), none⟩, ⟨some 51, .nilck (.t 50), none⟩, ⟨some 52, .faddr 2 (.t 51), none⟩, ⟨some 53, .load none (.t 52), none⟩, ⟨some 54, .iaddr 4 (.t 49) (.t 53), none⟩, ⟨some 55, .load (some 4) (.t 54), none⟩, ⟨some 56, .callH 21 [(.t 48), (.t 55)], none⟩])))))))))
  (.seq (.seq (.ops false [⟨some 57, .mv (.t 9), none⟩, ⟨some 58, .nilck (.t 57), none⟩, ⟨some 59, .faddr 3 (.t 58), none⟩, ⟨some 60, .load none (.t 59), none⟩, ⟨some 61, .bin .neq (.t 60) (.c (.int .i64 (-1))), none⟩])
  (.cond (.t 61) (.seq (.ops true [⟨some 62, .mv (.t 1), none⟩, ⟨some 63, .mv (.t 10), none⟩, ⟨some 64, .mv (.t 9), none⟩, ⟨some 65, .nilck (.t 64), none⟩, ⟨some 66, .faddr 3 (.t 65), none⟩, ⟨some 67, .load none (.t 66), none⟩, ⟨some 6, .mv (.t 62), none⟩, ⟨some 7, .mv (.t 63), none⟩, ⟨some 8, .mv (.t 67), none⟩])
   (.ret))
   (.skip)))
  (.seq (.ops false [⟨some 68, .mv (.t 9), none⟩, ⟨some 69, .nilck (.t 68), none⟩, ⟨some 70, .faddr 0 (.t 69), none⟩, ⟨some 71, .load none (.t 70), none⟩, ⟨some 72, .mv (.t 10), none⟩, ⟨some 6, .mv (.t 71), none⟩, ⟨some 7, .mv (.t 72), none⟩, ⟨some 8, .mv (.c (.int .i64 0)), none⟩])
  (.ret)))))),
  [.t 6, .t 7, .t 8]⟩

/- noria/move.each -/
def d_move_each : DFun := ⟨
  .seq (.ops false [⟨some 3, .bref (.t 0), none⟩, ⟨some 4, .bref (.t 1), none⟩, ⟨some 5, .box (.t 2), none⟩, ⟨some 6, .mv (.c (.undef)), none⟩])
  (.seq (.ops false [⟨some 7, .mkfun 22 [(.t 3), (.t 4), (.t 5)], none⟩, ⟨some 6, .mv (.t 7), none⟩])
  (.ret)),
  [.t 6]⟩

/- noria/plan.right -/
def d_plan_right : DFun := ⟨
  .seq (.ops false [⟨some 3, .bref (.t 0), none⟩, ⟨some 6, .mv (.c (.bool false)), none⟩])
  (.seq (.ops false [⟨some 8, .faddr 1 (.t 3), none⟩, ⟨some 9, .load none (.t 8), none⟩, ⟨some 10, .mv (.t 1), none⟩, ⟨some 11, .bin .eql (.t 9) (.t 10), none⟩, ⟨some 12, .mv (.t 11), none⟩, ⟨some 13, .faddr 2 (.t 3), some (12, true)⟩, ⟨some 14, .load none (.t 13), some (12, true)⟩, ⟨some 15, .bin .geq (.t 14) (.c (.int .i64 1)), some (12, true)⟩, ⟨some 16, .pick (.t 12) (.t 15) (.c (.bool false)), none⟩, ⟨some 17, .mv (.t 16), none⟩, ⟨some 18, .faddr 2 (.t 3), some (17, true)⟩, ⟨some 19, .load none (.t 18), some (17, true)⟩, ⟨some 20, .bin .leq (.t 19) (.c (.int .i64 8)), some (17, true)⟩, ⟨some 21, .pick (.t 17) (.t 20) (.c (.bool false)), none⟩, ⟨some 22, .mv (.t 21), none⟩, ⟨some 23, .mv (.t 1), some (22, true)⟩, ⟨some 24, .faddr 2 (.t 3), some (22, true)⟩, ⟨some 25, .load none (.t 24), some (22, true)⟩, ⟨some 26, .bin .sub (.c (.int .i64 1000)) (.t 25), some (22, true)⟩, ⟨some 27, .bin .leq (.t 23) (.t 26), some (22, true)⟩, ⟨some 28, .pick (.t 22) (.t 27) (.c (.bool false)), none⟩, ⟨some 7, .mv (.t 28), none⟩])
  (.seq (.seq (.ops false [⟨some 29, .faddr 0 (.t 3), none⟩, ⟨some 30, .load none (.t 29), none⟩])
  (.block 0 (.seq (.block 3 (.seq (.block 2 (.seq (.block 1 (.seq (.seq (.seq (.ops false [⟨some 32, .bin .eql (.t 30) (.c (.int .i64 2)), none⟩, ⟨some 31, .mv (.t 32), none⟩])
      (.cond (.t 31) (.exit 1)
       (.skip)))
      (.seq (.seq (.ops false [⟨some 34, .bin .eql (.t 30) (.c (.int .i64 3)), none⟩, ⟨some 33, .mv (.t 34), none⟩])
      (.cond (.t 33) (.exit 2)
       (.skip)))
      (.seq (.ops false [⟨some 36, .bin .eql (.t 30) (.c (.int .i64 1)), none⟩, ⟨some 35, .mv (.t 36), none⟩])
      (.cond (.t 35) (.exit 3)
       (.skip)))))
      (.exit 0)))
     (.ops false [⟨some 37, .mv (.t 7), none⟩, ⟨some 38, .mv (.t 37), none⟩, ⟨some 39, .faddr 4 (.t 3), some (38, true)⟩, ⟨some 40, .load none (.t 39), some (38, true)⟩, ⟨some 41, .len (.t 40), some (38, true)⟩, ⟨some 42, .faddr 2 (.t 3), some (38, true)⟩, ⟨some 43, .load none (.t 42), some (38, true)⟩, ⟨some 44, .bin .eql (.t 41) (.t 43), some (38, true)⟩, ⟨some 45, .pick (.t 38) (.t 44) (.c (.bool false)), none⟩, ⟨some 7, .mv (.t 45), none⟩])))
    (.seq (.seq (.ops false [⟨some 46, .mv (.t 7), none⟩, ⟨some 6, .mv (.t 46), none⟩])
    (.ret))
    (.exit 0))))
   (.seq (.seq (.ops false [⟨some 47, .mv (.t 7), none⟩, ⟨some 48, .mv (.t 47), none⟩, ⟨some 49, .faddr 3 (.t 3), some (48, true)⟩, ⟨some 50, .load none (.t 49), some (48, true)⟩, ⟨some 51, .bin .geq (.t 50) (.c (.int .i64 0)), some (48, true)⟩, ⟨some 52, .pick (.t 48) (.t 51) (.c (.bool false)), none⟩, ⟨some 53, .mv (.t 52), none⟩, ⟨some 54, .faddr 3 (.t 3), some (53, true)⟩, ⟨some 55, .load none (.t 54), some (53, true)⟩, ⟨some 56, .mv (.t 2), some (53, true)⟩, ⟨some 57, .bin .leq (.t 55) (.t 56), some (53, true)⟩, ⟨some 58, .pick (.t 53) (.t 57) (.c (.bool false)), none⟩, ⟨some 59, .mv (.t 58), none⟩, ⟨some 60, .faddr 2 (.t 3), some (59, true)⟩, ⟨some 61, .load none (.t 60), some (59, true)⟩, ⟨some 62, .mv (.t 2), some (59, true)⟩, ⟨some 63, .faddr 3 (.t 3), some (59, true)⟩, ⟨some 64, .load none (.t 63), some (59, true)⟩, ⟨some 65, .bin .sub (.t 62) (.t 64), some (59, true)⟩, ⟨some 66, .bin .leq (.t 61) (.t 65), some (59, true)⟩, ⟨some 67, .pick (.t 59) (.t 66) (.c (.bool false)), none⟩, ⟨some 6, .mv (.t 67), none⟩])
   (.ret))
   (.exit 0)))))
  (.seq (.ops false [⟨some 6, .mv (.c (.bool false)), none⟩])
  (.ret)))),
  [.t 6]⟩

/- slices.Clone[[]int64,int64] -/
def d_slices_Clone_int64_int64 : DFun := ⟨
  .seq (.ops false [⟨some 2, .mv (.c (.nil)), none⟩])
  (.seq (.seq (.ops false [⟨some 3, .mv (.t 0), none⟩, ⟨some 4, .snil false (.t 3), none⟩])
  (.cond (.t 4) (.seq (.ops false [⟨some 2, .mkown 1 (.c (.nil)), none⟩])
   (.ret))
   (.skip)))
  (.seq (.ops false [⟨some 5, .bslice false [.int .i64 0] [], none⟩, ⟨some 6, .mv (.t 0), none⟩, ⟨some 7, .append 1 (.t 5) (.t 6), none⟩, ⟨some 2, .mv (.t 7), none⟩])
  (.ret))),
  [.t 2]⟩

/- noria/move.run -/
def d_move_run : DFun := ⟨
  .seq (.ops false [⟨some 3, .bref (.t 0), none⟩, ⟨some 6, .alloc [.nil, .int .i64 0, .int .i64 0], none⟩])
  (.seq (.ops false [⟨some 11, .mv (.t 1), none⟩, ⟨some 12, .faddr 2 (.t 3), none⟩, ⟨some 13, .load none (.t 12), none⟩, ⟨some 14, .make [.int .i64 0] (.t 13) (.t 13), none⟩, ⟨some 15, .bslice true [.nil] [(some (.t 11)), (some (.t 14))], none⟩, ⟨some 16, .callH 23 [(.t 15)], none⟩, ⟨some 7, .mv (.t 16), none⟩])
  (.seq (.ops false [⟨some 18, .faddr 5 (.t 3), none⟩, ⟨some 19, .load none (.t 18), none⟩, ⟨some 20, .mv (.t 7), none⟩, ⟨some 21, .mv (.t 2), none⟩, ⟨some 22, .callP 24 [(.t 19), (.t 20), (.t 21)], none⟩, ⟨some 17, .mv (.t 22), none⟩, ⟨some 23, .extract 0 (.t 17), none⟩, ⟨some 24, .extract 1 (.t 17), none⟩, ⟨some 25, .extract 2 (.t 17), none⟩, ⟨some 8, .mv (.t 23), none⟩, ⟨some 9, .mv (.t 24), none⟩, ⟨some 10, .mv (.t 25), none⟩])
  (.seq (.seq (.ops false [⟨some 26, .mv (.t 10), none⟩, ⟨some 27, .bin .neq (.t 26) (.c (.int .i64 0)), none⟩])
  (.cond (.t 27) (.seq (.ops false [⟨some 28, .mv (.t 9), none⟩, ⟨some 29, .mv (.t 10), none⟩, ⟨some 30, .build [.nil, .int .i64 0, .int .i64 0] [(0, 1, (.c (.nil))), (1, 1, (.t 28)), (2, 1, (.t 29))], none⟩, ⟨none, .store 3 (.t 6) (.t 30), none⟩])
   (.ret))
   (.skip)))
  (.seq (.ops false [⟨some 31, .mv (.t 8), none⟩, ⟨some 32, .mv (.t 1), none⟩, ⟨some 33, .len (.t 32), none⟩, ⟨some 34, .slice 1 (.t 31) (some (.t 33)) none none, none⟩, ⟨some 35, .mv (.t 9), none⟩, ⟨some 36, .build [.nil, .int .i64 0, .int .i64 0] [(0, 1, (.t 34)), (1, 1, (.t 35)), (2, 1, (.c (.int .i64 0)))], none⟩, ⟨none, .store 3 (.t 6) (.t 36), none⟩])
  (.ret))))),
  [.cell 6 (some 3)]⟩

/- noria/noriaref28.Right -/
def d_noriaref28_Right : DFun := ⟨
  .seq (.ops false [⟨some 1, .box (.t 0), none⟩, ⟨some 2, .mv (.c (.bool false)), none⟩])
  (.seq (.seq (.ops false [⟨some 3, .faddr 0 (.t 1), none⟩, ⟨some 4, .load none (.t 3), none⟩, ⟨some 5, .bin .neq (.t 4) (.c (.int .i64 1)), none⟩, ⟨some 6, .mv (.t 5), none⟩, ⟨some 7, .faddr 3 (.t 1), some (6, true)⟩, ⟨some 8, .load none (.t 7), some (6, true)⟩, ⟨some 9, .bin .neq (.t 8) (.c (.int .i64 0)), some (6, true)⟩, ⟨some 10, .pick (.t 6) (.t 9) (.c (.bool false)), none⟩, ⟨some 11, .mv (.t 10), none⟩, ⟨some 12, .faddr 0 (.t 1), some (11, false)⟩, ⟨some 13, .load none (.t 12), some (11, false)⟩, ⟨some 14, .bin .neq (.t 13) (.c (.int .i64 8)), some (11, false)⟩, ⟨some 15, .mv (.t 14), some (11, false)⟩, ⟨some 16, .faddr 0 (.t 1), some (15, true)⟩, ⟨some 17, .load none (.t 16), some (15, true)⟩, ⟨some 18, .bin .neq (.t 17) (.c (.int .i64 9)), some (15, true)⟩, ⟨some 19, .pick (.t 15) (.t 18) (.c (.bool false)), some (11, false)⟩, ⟨some 20, .mv (.t 19), some (11, false)⟩, ⟨some 21, .faddr 2 (.t 1), some (20, true)⟩, ⟨some 22, .load none (.t 21), some (20, true)⟩, ⟨some 23, .bin .neq (.t 22) (.c (.int .i64 0)), some (20, true)⟩, ⟨some 24, .pick (.t 20) (.t 23) (.c (.bool false)), some (11, false)⟩, ⟨some 25, .pick (.t 11) (.c (.bool true)) (.t 24), none⟩])
  (.cond (.t 25) (.seq (.ops false [⟨some 2, .mv (.c (.bool false)), none⟩])
   (.ret))
   (.skip)))
  (.seq (.seq (.ops false [⟨some 26, .faddr 0 (.t 1), none⟩, ⟨some 27, .load none (.t 26), none⟩])
  (.block 0 (.seq (.ops false [⟨some 29, .bin .eql (.t 27) (.c (.int .i64 1)), none⟩, ⟨some 28, .mv (.t 29), none⟩])
   (.cond (.t 28) (.seq (.ops false [⟨some 30, .faddr 1 (.t 1), none⟩, ⟨some 31, .load none (.t 30), none⟩, ⟨some 32, .bin .geq (.t 31) (.c (.int .i64 1)), none⟩, ⟨some 33, .mv (.t 32), none⟩, ⟨some 34, .faddr 1 (.t 1), some (33, true)⟩, ⟨some 35, .load none (.t 34), some (33, true)⟩, ⟨some 36, .bin .leq (.t 35) (.c (.int .i64 1000)), some (33, true)⟩, ⟨some 37, .pick (.t 33) (.t 36) (.c (.bool false)), none⟩, ⟨some 2, .mv (.t 37), none⟩])
    (.ret))
    (.seq (.seq (.ops false [⟨some 39, .bin .eql (.t 27) (.c (.int .i64 2)), none⟩, ⟨some 38, .mv (.t 39), none⟩])
    (.cond (.t 38) (.skip)
     (.seq (.ops false [⟨some 40, .bin .eql (.t 27) (.c (.int .i64 3)), none⟩, ⟨some 38, .mv (.t 40), none⟩])
     (.cond (.t 38) (.skip)
      (.seq (.ops false [⟨some 41, .bin .eql (.t 27) (.c (.int .i64 6)), none⟩, ⟨some 38, .mv (.t 41), none⟩])
      (.cond (.t 38) (.skip)
       (.ops false [⟨some 42, .bin .eql (.t 27) (.c (.int .i64 7)), none⟩, ⟨some 38, .mv (.t 42), none⟩])))))))
    (.cond (.t 38) (.seq (.ops false [⟨some 43, .faddr 1 (.t 1), none⟩, ⟨some 44, .load none (.t 43), none⟩, ⟨some 45, .callP 25 [(.t 44)], none⟩, ⟨some 2, .mv (.t 45), none⟩])
     (.ret))
     (.seq (.ops false [⟨some 47, .bin .eql (.t 27) (.c (.int .i64 4)), none⟩, ⟨some 46, .mv (.t 47), none⟩])
     (.cond (.t 46) (.seq (.ops false [⟨some 48, .faddr 1 (.t 1), none⟩, ⟨some 49, .load none (.t 48), none⟩, ⟨some 50, .bin .eql (.t 49) (.c (.int .i64 1)), none⟩, ⟨some 51, .mv (.t 50), none⟩, ⟨some 52, .faddr 1 (.t 1), some (51, false)⟩, ⟨some 53, .load none (.t 52), some (51, false)⟩, ⟨some 54, .bin .eql (.t 53) (.c (.int .i64 2)), some (51, false)⟩, ⟨some 55, .pick (.t 51) (.c (.bool true)) (.t 54), none⟩, ⟨some 2, .mv (.t 55), none⟩])
      (.ret))
      (.seq (.ops false [⟨some 57, .bin .eql (.t 27) (.c (.int .i64 5)), none⟩, ⟨some 56, .mv (.t 57), none⟩])
      (.cond (.t 56) (.seq (.ops false [⟨some 58, .faddr 1 (.t 1), none⟩, ⟨some 59, .load none (.t 58), none⟩, ⟨some 60, .bin .geq (.t 59) (.c (.int .i64 3)), none⟩, ⟨some 61, .mv (.t 60), none⟩, ⟨some 62, .faddr 1 (.t 1), some (61, true)⟩, ⟨some 63, .load none (.t 62), some (61, true)⟩, ⟨some 64, .bin .leq (.t 63) (.c (.int .i64 16)), some (61, true)⟩, ⟨some 65, .pick (.t 61) (.t 64) (.c (.bool false)), none⟩, ⟨some 2, .mv (.t 65), none⟩])
       (.ret))
       (.seq (.seq (.ops false [⟨some 67, .bin .eql (.t 27) (.c (.int .i64 8)), none⟩, ⟨some 66, .mv (.t 67), none⟩])
       (.cond (.t 66) (.skip)
        (.ops false [⟨some 68, .bin .eql (.t 27) (.c (.int .i64 9)), none⟩, ⟨some 66, .mv (.t 68), none⟩])))
       (.cond (.t 66) (.seq (.ops false [⟨some 69, .faddr 1 (.t 1), none⟩, ⟨some 70, .load none (.t 69), none⟩, ⟨some 71, .callP 25 [(.t 70)], none⟩, ⟨some 72, .mv (.t 71), none⟩, ⟨some 73, .faddr 2 (.t 1), some (72, true)⟩, ⟨some 74, .load none (.t 73), some (72, true)⟩, ⟨some 75, .bin .geq (.t 74) (.c (.int .i64 1)), some (72, true)⟩, ⟨some 76, .pick (.t 72) (.t 75) (.c (.bool false)), none⟩, ⟨some 77, .mv (.t 76), none⟩, ⟨some 78, .faddr 2 (.t 1), some (77, true)⟩, ⟨some 79, .load none (.t 78), some (77, true)⟩, ⟨some 80, .bin .leq (.t 79) (.c (.int .i64 8)), some (77, true)⟩, ⟨some 81, .pick (.t 77) (.t 80) (.c (.bool false)), none⟩, ⟨some 2, .mv (.t 81), none⟩])
        (.ret))
        (.seq (.ops false [⟨some 83, .bin .eql (.t 27) (.c (.int .i64 10)), none⟩, ⟨some 82, .mv (.t 83), none⟩])
        (.cond (.t 82) (.seq (.ops false [⟨some 84, .faddr 1 (.t 1), none⟩, ⟨some 85, .load none (.t 84), none⟩, ⟨some 86, .bin .eql (.t 85) (.c (.int .i64 0)), none⟩, ⟨some 2, .mv (.t 86), none⟩])
         (.ret))
         (.skip)))))))))))))))
  (.seq (.ops false [⟨some 2, .mv (.c (.bool false)), none⟩])
  (.ret)))),
  [.t 2]⟩

/- (*noria/noriaref30.R).do -/
def d_noriaref30_R_do : DFun := ⟨
  .seq (.ops false [⟨some 3, .box (.t 1), none⟩])
  (.seq (.ops false [⟨some 8, .mv (.t 0), none⟩, ⟨some 9, .nilck (.t 8), none⟩, ⟨some 10, .faddr 2 (.t 9), none⟩, ⟨some 11, .load none (.t 10), none⟩, ⟨some 12, .bin .add (.t 11) (.c (.int .i64 1)), none⟩, ⟨some 13, .nilck (.t 8), none⟩, ⟨some 14, .faddr 2 (.t 13), none⟩, ⟨none, .store 1 (.t 14) (.t 12), none⟩])
  (.seq (.ops false [⟨some 15, .faddr 0 (.t 3), none⟩, ⟨some 16, .load none (.t 15), none⟩])
  (.block 0 (.seq (.ops false [⟨some 18, .bin .eql (.t 16) (.c (.int .i64 1)), none⟩, ⟨some 17, .mv (.t 18), none⟩])
   (.cond (.t 17) (.ops false [⟨some 19, .mv (.t 0), none⟩, ⟨some 20, .faddr 3 (.t 3), none⟩, ⟨some 21, .load none (.t 20), none⟩, ⟨some 22, .callH 26 [(.t 19), (.t 21)], none⟩])
    (.seq (.ops false [⟨some 24, .bin .eql (.t 16) (.c (.int .i64 2)), none⟩, ⟨some 23, .mv (.t 24), none⟩])
    (.cond (.t 23) (.seq (.ops false [⟨some 25, .mv (.t 0), none⟩, ⟨some 26, .faddr 1 (.t 3), none⟩, ⟨some 27, .load none (.t 26), none⟩, ⟨some 28, .callH 27 [(.t 25), (.t 27), (.c (.int .i64 1))], none⟩])
     (.cond (.t 28) (.ops true [⟨some 29, .mv (.t 0), none⟩, ⟨some 30, .mv (.t 0), none⟩, ⟨some 31, .nilck (.t 30), none⟩, ⟨some 32, .faddr 0 (.t 31), none⟩, ⟨some 33, .load none (.t 32), none⟩, ⟨some 34, .faddr 1 (.t 3), none⟩, ⟨some 35, .load none (.t 34), none⟩, ⟨some 36, .iaddr 1 (.t 33) (.t 35), none⟩, ⟨some 37, .load none (.t 36), none⟩, ⟨some 38, .callH 26 [(.t 29), (.t 37)], none⟩])
      (.skip)))
     (.seq (.ops false [⟨some 40, .bin .eql (.t 16) (.c (.int .i64 3)), none⟩, ⟨some 39, .mv (.t 40), none⟩])
     (.cond (.t 39) (.seq (.ops false [⟨some 42, .mv (.t 0), none⟩, ⟨some 43, .callH 28 [(.t 42)], none⟩, ⟨some 41, .mv (.t 43), none⟩, ⟨some 44, .extract 0 (.t 41), none⟩, ⟨some 45, .extract 1 (.t 41), none⟩, ⟨some 4, .mv (.t 44), none⟩, ⟨some 5, .mv (.t 45), none⟩])
      (.seq (.ops false [⟨some 46, .mv (.t 5), none⟩, ⟨some 47, .mv (.t 46), none⟩, ⟨some 48, .mv (.t 0), some (47, true)⟩, ⟨some 49, .faddr 1 (.t 3), some (47, true)⟩, ⟨some 50, .load none (.t 49), some (47, true)⟩, ⟨some 51, .callH 27 [(.t 48), (.t 50), (.c (.int .i64 1))], some (47, true)⟩, ⟨some 52, .pick (.t 47) (.t 51) (.c (.bool false)), none⟩])
      (.cond (.t 52) (.ops true [⟨some 53, .mv (.t 0), none⟩, ⟨some 54, .nilck (.t 53), none⟩, ⟨some 55, .faddr 0 (.t 54), none⟩, ⟨some 56, .load none (.t 55), none⟩, ⟨some 57, .faddr 1 (.t 3), none⟩, ⟨some 58, .load none (.t 57), none⟩, ⟨some 59, .mv (.t 4), none⟩, ⟨some 60, .iaddr 1 (.t 56) (.t 58), none⟩, ⟨none, .store 1 (.t 60) (.t 59), none⟩])
       (.skip))))
      (.seq (.seq (.ops false [⟨some 62, .bin .eql (.t 16) (.c (.int .i64 4)), none⟩, ⟨some 61, .mv (.t 62), none⟩])
      (.cond (.t 61) (.skip)
       (.ops false [⟨some 63, .bin .eql (.t 16) (.c (.int .i64 5)), none⟩, ⟨some 61, .mv (.t 63), none⟩])))
      (.cond (.t 61) (.ops false [⟨some 64, .mv (.t 0), none⟩, ⟨some 65, .load (some 4) (.t 3), none⟩, ⟨some 66, .callH 29 [(.t 64), (.t 65)], none⟩])
       (.seq (.ops false [⟨some 68, .bin .eql (.t 16) (.c (.int .i64 6)), none⟩, ⟨some 67, .mv (.t 68), none⟩])
       (.cond (.t 67) (.ops false [⟨some 69, .mv (.t 0), none⟩, ⟨some 70, .faddr 1 (.t 3), none⟩, ⟨some 71, .load none (.t 70), none⟩, ⟨some 72, .nilck (.t 69), none⟩, ⟨some 73, .faddr 2 (.t 72), none⟩, ⟨none, .store 1 (.t 73) (.t 71), none⟩])
        (.seq (.ops false [⟨some 75, .bin .eql (.t 16) (.c (.int .i64 7)), none⟩, ⟨some 74, .mv (.t 75), none⟩])
        (.cond (.t 74) (.seq (.ops false [⟨some 77, .mv (.t 0), none⟩, ⟨some 78, .callH 28 [(.t 77)], none⟩, ⟨some 76, .mv (.t 78), none⟩, ⟨some 79, .extract 0 (.t 76), none⟩, ⟨some 80, .extract 1 (.t 76), none⟩, ⟨some 6, .mv (.t 79), none⟩, ⟨some 7, .mv (.t 80), none⟩])
         (.seq (.ops false [⟨some 81, .mv (.t 7), none⟩, ⟨some 82, .mv (.t 81), none⟩, ⟨some 83, .mv (.t 6), some (82, true)⟩, ⟨some 84, .bin .eql (.t 83) (.c (.int .i64 0)), some (82, true)⟩, ⟨some 85, .pick (.t 82) (.t 84) (.c (.bool false)), none⟩])
         (.cond (.t 85) (.ops false [⟨some 86, .mv (.t 0), none⟩, ⟨some 87, .faddr 1 (.t 3), none⟩, ⟨some 88, .load none (.t 87), none⟩, ⟨some 89, .nilck (.t 86), none⟩, ⟨some 90, .faddr 2 (.t 89), none⟩, ⟨none, .store 1 (.t 90) (.t 88), none⟩])
          (.skip))))
         (.seq (.seq (.ops false [⟨some 92, .bin .eql (.t 16) (.c (.int .i64 8)), none⟩, ⟨some 91, .mv (.t 92), none⟩])
         (.cond (.t 91) (.skip)
          (.ops false [⟨some 93, .bin .eql (.t 16) (.c (.int .i64 9)), none⟩, ⟨some 91, .mv (.t 93), none⟩])))
         (.cond (.t 91) (.ops false [⟨some 94, .mv (.t 0), none⟩, ⟨some 95, .load (some 4) (.t 3), none⟩, ⟨some 96, .callH 30 [(.t 94), (.t 95)], none⟩])
          (.seq (.ops false [⟨some 98, .bin .eql (.t 16) (.c (.int .i64 10)), none⟩, ⟨some 97, .mv (.t 98), none⟩])
          (.cond (.t 97) (.ops false [⟨some 99, .mv (.t 0), none⟩, ⟨some 100, .nilck (.t 99), none⟩, ⟨some 101, .faddr 3 (.t 100), none⟩, ⟨none, .store 1 (.t 101) (.c (.int .i64 (-1))), none⟩])
           (.skip)))))))))))))))))))),
  []⟩

/- noria/move.each$1 -/
def d_move_each_1 : DFun := ⟨
  .seq (.ops false [⟨some 8, .load none (.t 1), none⟩, ⟨some 9, .len (.t 8), none⟩, ⟨some 10, .mv (.c (.int .i64 0)), none⟩])
  (.block 0 (.loop [0, 2, 3, 8, 9, 10] (some 1) (.seq (.ops false [⟨some 11, .bin .lss (.t 10) (.t 9), none⟩])
    (.seq (.cond (.t 11) (.skip)
     (.exit 0))
    (.seq (.block 1 (.seq (.ops false [⟨some 12, .iaddr 6 (.t 8) (.t 10), none⟩, ⟨some 13, .load (some 6) (.t 12), none⟩, ⟨some 6, .alloc [.int .i64 0, .int .i64 0, .int .i64 0, .int .i64 0, .nil, .nil], none⟩, ⟨none, .store 6 (.t 6) (.t 13), none⟩])
     (.seq (.ops false [⟨some 14, .load (some 6) (.t 6), none⟩, ⟨some 15, .load none (.t 2), none⟩, ⟨some 16, .load none (.t 3), none⟩, ⟨some 17, .callP 13 [(.t 14), (.t 15), (.t 16)], none⟩, ⟨some 7, .alloc [.nil, .int .i64 0, .int .i64 0], none⟩, ⟨none, .store 3 (.t 7) (.t 17), none⟩])
     (.seq (.ops false [⟨some 18, .load none (.t 3), none⟩, ⟨some 19, .faddr 1 (.t 7), none⟩, ⟨some 20, .load none (.t 19), none⟩, ⟨some 21, .bin .sub (.t 18) (.t 20), none⟩, ⟨none, .store 1 (.t 3) (.t 21), none⟩])
     (.seq (.ops false [⟨some 22, .mv (.t 0), none⟩, ⟨some 23, .load (some 3) (.t 7), none⟩, ⟨some 24, .callvP (.t 22) [(.t 23)], none⟩, ⟨some 25, .un .not (.t 24), none⟩, ⟨some 26, .mv (.t 25), none⟩, ⟨some 27, .faddr 2 (.t 7), some (26, false)⟩, ⟨some 28, .load none (.t 27), some (26, false)⟩, ⟨some 29, .bin .neq (.t 28) (.c (.int .i64 0)), some (26, false)⟩, ⟨some 30, .pick (.t 26) (.c (.bool true)) (.t 29), none⟩])
     (.cond (.t 30) (.ret)
      (.skip)))))))
    (.ops false [⟨some 31, .bin .add (.t 10) (.c (.int .i64 1)), none⟩, ⟨some 10, .mv (.t 31), none⟩])))))),
  []⟩

/- slices.Concat[[]int64,int64] -/
def d_slices_Concat_int64_int64 : DFun := ⟨
  .seq (.ops false [⟨some 2, .mv (.c (.nil)), none⟩])
  (.seq (.ops false [⟨some 3, .mv (.c (.int .i64 0)), none⟩])
  (.seq (.seq (.ops false [⟨some 9, .mv (.t 0), none⟩, ⟨some 10, .len (.t 9), none⟩, ⟨some 11, .mv (.c (.int .i64 0)), none⟩])
  (.block 0 (.loop [0, 3, 9, 10, 11] none (.seq (.ops false [⟨some 12, .bin .lss (.t 11) (.t 10), none⟩])
    (.seq (.cond (.t 12) (.skip)
     (.exit 0))
    (.seq (.block 1 (.seq (.ops false [⟨some 13, .iaddr 1 (.t 9) (.t 11), none⟩, ⟨some 14, .load none (.t 13), none⟩, ⟨some 5, .mv (.t 14), none⟩])
     (.seq (.ops false [⟨some 15, .mv (.t 3), none⟩, ⟨some 16, .mv (.t 5), none⟩, ⟨some 17, .len (.t 16), none⟩, ⟨some 18, .bin .add (.t 15) (.t 17), none⟩, ⟨some 3, .mv (.t 18), none⟩])
     (.seq (.ops false [⟨some 19, .mv (.t 3), none⟩, ⟨some 20, .bin .lss (.t 19) (.c (.int .i64 0)), none⟩])
     (.cond (.t 20) (.ops false [⟨some 21, .bad, none⟩, ⟨none, .bad, none⟩])
      (.skip))))))
    (.ops false [⟨some 22, .bin .add (.t 11) (.c (.int .i64 1)), none⟩, ⟨some 11, .mv (.t 22), none⟩])))))))
  (.seq (.ops false [⟨some 23, .mv (.t 3), none⟩, ⟨some 24, .callH 31 [(.c (.nil)), (.t 23)], none⟩, ⟨some 6, .mv (.t 24), none⟩])
  (.seq (.seq (.ops false [⟨some 25, .mv (.t 0), none⟩, ⟨some 26, .len (.t 25), none⟩, ⟨some 27, .mv (.c (.int .i64 0)), none⟩])
  (.block 2 (.loop [6, 25, 26, 27] none (.seq (.ops false [⟨some 28, .bin .lss (.t 27) (.t 26), none⟩])
    (.seq (.cond (.t 28) (.skip)
     (.exit 2))
    (.seq (.block 3 (.seq (.ops false [⟨some 29, .iaddr 1 (.t 25) (.t 27), none⟩, ⟨some 30, .load none (.t 29), none⟩, ⟨some 8, .mv (.t 30), none⟩])
     (.ops false [⟨some 31, .mv (.t 6), none⟩, ⟨some 32, .mv (.t 8), none⟩, ⟨some 33, .append 1 (.t 31) (.t 32), none⟩, ⟨some 6, .mv (.t 33), none⟩])))
    (.ops false [⟨some 34, .bin .add (.t 27) (.c (.int .i64 1)), none⟩, ⟨some 27, .mv (.t 34), none⟩])))))))
  (.seq (.ops false [⟨some 35, .mv (.t 6), none⟩, ⟨some 2, .mv (.t 35), none⟩])
  (.ret)))))),
  [.t 2]⟩

/- noria/vm.Run -/
def d_vm_Run : DFun := ⟨
  .seq (.ops false [⟨some 6, .mv (.c (.nil)), none⟩, ⟨some 7, .mv (.c (.int .i64 0)), none⟩, ⟨some 8, .mv (.c (.int .i64 0)), none⟩])
  (.seq (.ops false [⟨some 11, .mv (.t 1), none⟩, ⟨some 12, .callH 18 [(.t 11)], none⟩, ⟨some 13, .build [.nil, .int .i64 0, .int .i64 0, .int .i64 0, .int .i64 0, .int .i64 0, .int .i64 0, .int .i64 0, .int .i64 0, .int .i64 0, .int .i64 0, .int .i64 0, .int .i64 0, .int .i64 0, .int .i64 0, .int .i64 0, .int .i64 0, .int .i64 0, .int .i64 0, .int .i64 0] [(0, 1, (.t 12))], none⟩, ⟨some 14, .box (.t 13), none⟩, ⟨some 9, .mv (.t 14), none⟩])
  (.seq (.seq (.ops false [⟨some 15, .mv (.t 9), none⟩, ⟨some 16, .mv (.t 0), none⟩, ⟨some 17, .mv (.t 2), none⟩, ⟨some 18, .callH 32 [(.t 15), (.t 16), (.t 17)], none⟩, ⟨some 10, .mv (.t 18), none⟩])
  (.seq (.ops false [⟨some 19, .mv (.t 10), none⟩, ⟨some 20, .bin .neq (.t 19) (.c (.int .i64 0)), none⟩])
  (.cond (.t 20) (.seq (.opsP [(0, ⟨some 21, .mv (.t 1), none⟩), (2, ⟨some 23, .mv (.t 9), none⟩), (3, ⟨some 24, .nilck (.t 23), none⟩), (4, ⟨some 25, .faddr 19 (.t 24), none⟩), (5, ⟨some 26, .load none (.t 25), none⟩), (6, ⟨some 27, .mv (.t 10), none⟩), (1, ⟨some 22, .callP 18 [(.t 21)], none⟩), (7, ⟨some 6, .mv (.t 22), none⟩), (8, ⟨some 7, .mv (.t 26), none⟩), (9, ⟨some 8, .mv (.t 27), none⟩)])
   (.ret))
   (.skip))))
  (.seq (.ops true [⟨some 28, .mv (.t 9), none⟩, ⟨some 29, .nilck (.t 28), none⟩, ⟨some 30, .faddr 0 (.t 29), none⟩, ⟨some 31, .load none (.t 30), none⟩, ⟨some 32, .mv (.t 9), none⟩, ⟨some 33, .nilck (.t 32), none⟩, ⟨some 34, .faddr 19 (.t 33), none⟩, ⟨some 35, .load none (.t 34), none⟩, ⟨some 6, .mv (.t 31), none⟩, ⟨some 7, .mv (.t 35), none⟩, ⟨some 8, .mv (.c (.int .i64 0)), none⟩])
  (.ret)))),
  [.t 6, .t 7, .t 8]⟩

/- noria/noriaref28.place -/
def d_noriaref28_place : DFun := ⟨
  .seq (.ops false [⟨some 2, .mv (.c (.bool false)), none⟩])
  (.seq (.ops false [⟨some 3, .mv (.t 0), none⟩, ⟨some 4, .bin .geq (.t 3) (.c (.int .i64 0)), none⟩, ⟨some 5, .mv (.t 4), none⟩, ⟨some 6, .mv (.t 0), some (5, true)⟩, ⟨some 7, .bin .leq (.t 6) (.c (.int .i64 65535)), some (5, true)⟩, ⟨some 8, .pick (.t 5) (.t 7) (.c (.bool false)), none⟩, ⟨some 2, .mv (.t 8), none⟩])
  (.ret)),
  [.t 2]⟩

/- (*noria/noriaref30.R).push -/
def d_noriaref30_R_push : DFun := ⟨
  .seq (.seq (.ops false [⟨some 4, .mv (.t 0), none⟩, ⟨some 5, .nilck (.t 4), none⟩, ⟨some 6, .faddr 1 (.t 5), none⟩, ⟨some 7, .load none (.t 6), none⟩, ⟨some 8, .len (.t 7), none⟩, ⟨some 9, .bin .geq (.t 8) (.c (.int .i64 16)), none⟩])
  (.cond (.t 9) (.seq (.ops false [⟨some 10, .mv (.t 0), none⟩, ⟨some 11, .nilck (.t 10), none⟩, ⟨some 12, .faddr 3 (.t 11), none⟩, ⟨none, .store 1 (.t 12) (.c (.int .i64 13)), none⟩])
   (.ret))
   (.skip)))
  (.ops false [⟨some 13, .mv (.t 0), none⟩, ⟨some 14, .bslice false [.int .i64 0] [], none⟩, ⟨some 15, .mv (.t 0), none⟩, ⟨some 16, .nilck (.t 15), none⟩, ⟨some 17, .faddr 1 (.t 16), none⟩, ⟨some 18, .load none (.t 17), none⟩, ⟨some 19, .append 1 (.t 14) (.t 18), none⟩, ⟨some 20, .mv (.t 1), none⟩, ⟨some 21, .bslice true [.int .i64 0] [(some (.t 20))], none⟩, ⟨some 22, .fz (.append 1 (.t 19) (.t 21)), none⟩, ⟨some 23, .nilck (.t 13), none⟩, ⟨some 24, .faddr 1 (.t 23), none⟩, ⟨none, .store 1 (.t 24) (.t 22), none⟩]),
  []⟩

/- (*noria/noriaref30.R).there -/
def d_noriaref30_R_there : DFun := ⟨
  .seq (.ops false [⟨some 6, .mv (.c (.bool false)), none⟩])
  (.seq (.seq (.ops false [⟨some 7, .mv (.t 1), none⟩, ⟨some 8, .mv (.t 2), none⟩, ⟨some 9, .bin .add (.t 7) (.t 8), none⟩, ⟨some 10, .mv (.t 0), none⟩, ⟨some 11, .nilck (.t 10), none⟩, ⟨some 12, .faddr 0 (.t 11), none⟩, ⟨some 13, .load none (.t 12), none⟩, ⟨some 14, .len (.t 13), none⟩, ⟨some 15, .bin .gtr (.t 9) (.t 14), none⟩])
  (.cond (.t 15) (.seq (.ops false [⟨some 16, .mv (.t 0), none⟩, ⟨some 17, .nilck (.t 16), none⟩, ⟨some 18, .faddr 3 (.t 17), none⟩, ⟨none, .store 1 (.t 18) (.c (.int .i64 13)), none⟩])
   (.seq (.ops false [⟨some 6, .mv (.c (.bool false)), none⟩])
   (.ret)))
   (.skip)))
  (.seq (.ops false [⟨some 6, .mv (.c (.bool true)), none⟩])
  (.ret))),
  [.t 6]⟩

/- (*noria/noriaref30.R).pop -/
def d_noriaref30_R_pop : DFun := ⟨
  .seq (.ops false [⟨some 2, .mv (.c (.int .i64 0)), none⟩, ⟨some 3, .mv (.c (.bool false)), none⟩])
  (.seq (.seq (.ops false [⟨some 5, .mv (.t 0), none⟩, ⟨some 6, .nilck (.t 5), none⟩, ⟨some 7, .faddr 1 (.t 6), none⟩, ⟨some 8, .load none (.t 7), none⟩, ⟨some 9, .len (.t 8), none⟩, ⟨some 10, .bin .eql (.t 9) (.c (.int .i64 0)), none⟩])
  (.cond (.t 10) (.seq (.ops false [⟨some 11, .mv (.t 0), none⟩, ⟨some 12, .nilck (.t 11), none⟩, ⟨some 13, .faddr 3 (.t 12), none⟩, ⟨none, .store 1 (.t 13) (.c (.int .i64 13)), none⟩])
   (.seq (.ops false [⟨some 2, .mv (.c (.int .i64 0)), none⟩, ⟨some 3, .mv (.c (.bool false)), none⟩])
   (.ret)))
   (.skip)))
  (.seq (.ops true [⟨some 14, .mv (.t 0), none⟩, ⟨some 15, .nilck (.t 14), none⟩, ⟨some 16, .faddr 1 (.t 15), none⟩, ⟨some 17, .load none (.t 16), none⟩, ⟨some 18, .mv (.t 0), none⟩, ⟨some 19, .nilck (.t 18), none⟩, ⟨some 20, .faddr 1 (.t 19), none⟩, ⟨some 21, .load none (.t 20), none⟩, ⟨some 22, .len (.t 21), none⟩, ⟨some 23, .bin .sub (.t 22) (.c (.int .i64 1)), none⟩, ⟨some 24, .iaddr 1 (.t 17) (.t 23), none⟩, ⟨some 25, .load none (.t 24), none⟩, ⟨some 4, .mv (.t 25), none⟩])
  (.seq (.ops true [⟨some 26, .mv (.t 0), none⟩, ⟨some 27, .mv (.t 0), none⟩, ⟨some 28, .nilck (.t 27), none⟩, ⟨some 29, .faddr 1 (.t 28), none⟩, ⟨some 30, .load none (.t 29), none⟩, ⟨some 31, .mv (.t 0), none⟩, ⟨some 32, .nilck (.t 31), none⟩, ⟨some 33, .faddr 1 (.t 32), none⟩, ⟨some 34, .load none (.t 33), none⟩, ⟨some 35, .len (.t 34), none⟩, ⟨some 36, .bin .sub (.t 35) (.c (.int .i64 1)), none⟩, ⟨some 37, .slice 1 (.t 30) none (some (.t 36)) none, none⟩, ⟨some 38, .nilck (.t 26), none⟩, ⟨some 39, .faddr 1 (.t 38), none⟩, ⟨none, .store 1 (.t 39) (.t 37), none⟩])
  (.seq (.ops false [⟨some 40, .mv (.t 4), none⟩, ⟨some 2, .mv (.t 40), none⟩, ⟨some 3, .mv (.c (.bool true)), none⟩])
  (.ret))))),
  [.t 2, .t 3]⟩

/- (*noria/noriaref30.R).operate -/
def d_noriaref30_R_operate : DFun := ⟨
  .seq (.ops false [⟨some 3, .box (.t 1), none⟩])
  (.seq (.ops false [⟨some 11, .mv (.t 0), none⟩, ⟨some 12, .callH 28 [(.t 11)], none⟩, ⟨some 10, .mv (.t 12), none⟩, ⟨some 13, .extract 0 (.t 10), none⟩, ⟨some 14, .extract 1 (.t 10), none⟩, ⟨some 4, .mv (.t 13), none⟩, ⟨some 5, .mv (.t 14), none⟩])
  (.seq (.seq (.ops false [⟨some 15, .mv (.t 5), none⟩, ⟨some 16, .un .not (.t 15), none⟩])
  (.cond (.t 16) (.ret)
   (.skip)))
  (.seq (.ops false [⟨some 6, .mv (.c (.int .i64 0)), none⟩, ⟨some 7, .mv (.c (.int .i64 0)), none⟩])
  (.seq (.seq (.ops false [⟨some 17, .faddr 0 (.t 3), none⟩, ⟨some 18, .load none (.t 17), none⟩, ⟨some 19, .bin .eql (.t 18) (.c (.int .i64 4)), none⟩])
  (.cond (.t 19) (.ops false [⟨some 21, .faddr 1 (.t 3), none⟩, ⟨some 22, .load none (.t 21), none⟩, ⟨some 23, .mv (.t 4), none⟩, ⟨some 24, .callP 33 [(.t 22), (.t 23)], none⟩, ⟨some 20, .mv (.t 24), none⟩, ⟨some 25, .extract 0 (.t 20), none⟩, ⟨some 26, .extract 1 (.t 20), none⟩, ⟨some 6, .mv (.t 25), none⟩, ⟨some 7, .mv (.t 26), none⟩])
   (.seq (.ops false [⟨some 28, .mv (.t 0), none⟩, ⟨some 29, .callH 28 [(.t 28)], none⟩, ⟨some 27, .mv (.t 29), none⟩, ⟨some 30, .extract 0 (.t 27), none⟩, ⟨some 31, .extract 1 (.t 27), none⟩, ⟨some 8, .mv (.t 30), none⟩, ⟨some 9, .mv (.t 31), none⟩])
   (.seq (.seq (.ops false [⟨some 32, .mv (.t 9), none⟩, ⟨some 33, .un .not (.t 32), none⟩])
   (.cond (.t 33) (.ret)
    (.skip)))
   (.ops false [⟨some 35, .faddr 1 (.t 3), none⟩, ⟨some 36, .load none (.t 35), none⟩, ⟨some 37, .mv (.t 8), none⟩, ⟨some 38, .mv (.t 4), none⟩, ⟨some 39, .callP 34 [(.t 36), (.t 37), (.t 38)], none⟩, ⟨some 34, .mv (.t 39), none⟩, ⟨some 40, .extract 0 (.t 34), none⟩, ⟨some 41, .extract 1 (.t 34), none⟩, ⟨some 6, .mv (.t 40), none⟩, ⟨some 7, .mv (.t 41), none⟩])))))
  (.seq (.seq (.ops false [⟨some 42, .mv (.t 7), none⟩, ⟨some 43, .bin .neq (.t 42) (.c (.int .i64 0)), none⟩])
  (.cond (.t 43) (.seq (.ops false [⟨some 44, .mv (.t 0), none⟩, ⟨some 45, .mv (.t 7), none⟩, ⟨some 46, .nilck (.t 44), none⟩, ⟨some 47, .faddr 3 (.t 46), none⟩, ⟨none, .store 1 (.t 47) (.t 45), none⟩])
   (.ret))
   (.skip)))
  (.ops false [⟨some 48, .mv (.t 0), none⟩, ⟨some 49, .mv (.t 6), none⟩, ⟨some 50, .callH 26 [(.t 48), (.t 49)], none⟩])))))),
  []⟩

/- (*noria/noriaref30.R).place -/
def d_noriaref30_R_place : DFun := ⟨
  .seq (.ops false [⟨some 3, .box (.t 1), none⟩])
  (.seq (.ops false [⟨some 8, .mv (.t 0), none⟩, ⟨some 9, .callH 28 [(.t 8)], none⟩, ⟨some 7, .mv (.t 9), none⟩, ⟨some 10, .extract 0 (.t 7), none⟩, ⟨some 11, .extract 1 (.t 7), none⟩, ⟨some 4, .mv (.t 10), none⟩, ⟨some 5, .mv (.t 11), none⟩])
  (.seq (.seq (.ops false [⟨some 12, .mv (.t 5), none⟩, ⟨some 13, .un .not (.t 12), none⟩])
  (.cond (.t 13) (.ret)
   (.skip)))
  (.seq (.ops false [⟨some 6, .mv (.c (.int .i64 0)), none⟩])
  (.seq (.seq (.ops false [⟨some 14, .faddr 0 (.t 3), none⟩, ⟨some 15, .load none (.t 14), none⟩, ⟨some 16, .bin .eql (.t 15) (.c (.int .i64 9)), none⟩])
  (.cond (.t 16) (.seq (.ops false [⟨some 18, .mv (.t 0), none⟩, ⟨some 19, .callH 28 [(.t 18)], none⟩, ⟨some 17, .mv (.t 19), none⟩, ⟨some 20, .extract 0 (.t 17), none⟩, ⟨some 21, .extract 1 (.t 17), none⟩, ⟨some 6, .mv (.t 20), none⟩, ⟨some 5, .mv (.t 21), none⟩])
   (.seq (.ops false [⟨some 22, .mv (.t 5), none⟩, ⟨some 23, .un .not (.t 22), none⟩])
   (.cond (.t 23) (.ret)
    (.skip))))
   (.skip)))
  (.seq (.seq (.ops false [⟨some 24, .mv (.t 0), none⟩, ⟨some 25, .faddr 1 (.t 3), none⟩, ⟨some 26, .load none (.t 25), none⟩, ⟨some 27, .faddr 2 (.t 3), none⟩, ⟨some 28, .load none (.t 27), none⟩, ⟨some 29, .callH 27 [(.t 24), (.t 26), (.t 28)], none⟩, ⟨some 30, .un .not (.t 29), none⟩])
  (.cond (.t 30) (.ret)
   (.skip)))
  (.seq (.seq (.ops false [⟨some 31, .mv (.t 4), none⟩, ⟨some 32, .bin .lss (.t 31) (.c (.int .i64 0)), none⟩, ⟨some 33, .mv (.t 32), none⟩, ⟨some 34, .mv (.t 4), some (33, false)⟩, ⟨some 35, .faddr 2 (.t 3), some (33, false)⟩, ⟨some 36, .load none (.t 35), some (33, false)⟩, ⟨some 37, .bin .geq (.t 34) (.t 36), some (33, false)⟩, ⟨some 38, .pick (.t 33) (.c (.bool true)) (.t 37), none⟩])
  (.cond (.t 38) (.seq (.ops false [⟨some 39, .mv (.t 0), none⟩, ⟨some 40, .nilck (.t 39), none⟩, ⟨some 41, .faddr 3 (.t 40), none⟩, ⟨none, .store 1 (.t 41) (.c (.int .i64 16)), none⟩])
   (.ret))
   (.skip)))
  (.seq (.seq (.ops false [⟨some 42, .faddr 0 (.t 3), none⟩, ⟨some 43, .load none (.t 42), none⟩, ⟨some 44, .bin .eql (.t 43) (.c (.int .i64 9)), none⟩])
  (.cond (.t 44) (.seq (.ops true [⟨some 45, .mv (.t 0), none⟩, ⟨some 46, .nilck (.t 45), none⟩, ⟨some 47, .faddr 0 (.t 46), none⟩, ⟨some 48, .load none (.t 47), none⟩, ⟨some 49, .faddr 1 (.t 3), none⟩, ⟨some 50, .load none (.t 49), none⟩, ⟨some 51, .mv (.t 4), none⟩, ⟨some 52, .bin .add (.t 50) (.t 51), none⟩, ⟨some 53, .mv (.t 6), none⟩, ⟨some 54, .iaddr 1 (.t 48) (.t 52), none⟩, ⟨none, .store 1 (.t 54) (.t 53), none⟩])
   (.ret))
   (.skip)))
  (.ops true [⟨some 55, .mv (.t 0), none⟩, ⟨some 56, .mv (.t 0), none⟩, ⟨some 57, .nilck (.t 56), none⟩, ⟨some 58, .faddr 0 (.t 57), none⟩, ⟨some 59, .load none (.t 58), none⟩, ⟨some 60, .faddr 1 (.t 3), none⟩, ⟨some 61, .load none (.t 60), none⟩, ⟨some 62, .mv (.t 4), none⟩, ⟨some 63, .bin .add (.t 61) (.t 62), none⟩, ⟨some 64, .iaddr 1 (.t 59) (.t 63), none⟩, ⟨some 65, .load none (.t 64), none⟩, ⟨some 66, .callH 26 [(.t 55), (.t 65)], none⟩])))))))),
  []⟩

/- slices.Grow[[]int64,int64] -/
def d_slices_Grow_int64_int64 : DFun := ⟨
  .seq (.ops false [⟨some 4, .mv (.c (.nil)), none⟩])
  (.seq (.seq (.ops false [⟨some 5, .mv (.t 1), none⟩, ⟨some 6, .bin .lss (.t 5) (.c (.int .i64 0)), none⟩])
  (.cond (.t 6) (.ops false [⟨some 7, .bad, none⟩, ⟨none, .bad, none⟩])
   (.skip)))
  (.seq (.seq (.ops false [⟨some 8, .mv (.t 1), none⟩, ⟨some 9, .mv (.t 0), none⟩, ⟨some 10, .capn (.t 9), none⟩, ⟨some 11, .mv (.t 0), none⟩, ⟨some 12, .len (.t 11), none⟩, ⟨some 13, .bin .sub (.t 10) (.t 12), none⟩, ⟨some 14, .bin .sub (.t 8) (.t 13), none⟩, ⟨some 1, .mv (.t 14), none⟩])
  (.seq (.ops false [⟨some 15, .mv (.t 1), none⟩, ⟨some 16, .bin .gtr (.t 15) (.c (.int .i64 0)), none⟩])
  (.cond (.t 16) (.ops false [⟨some 17, .mv (.t 0), none⟩, ⟨some 18, .mv (.t 0), none⟩, ⟨some 19, .capn (.t 18), none⟩, ⟨some 20, .slice 1 (.t 17) none (some (.t 19)) none, none⟩, ⟨some 21, .mv (.t 1), none⟩, ⟨some 22, .appz 1 [.int .i64 0] (.t 20) (.t 21), none⟩, ⟨some 23, .mv (.t 0), none⟩, ⟨some 24, .len (.t 23), none⟩, ⟨some 25, .slice 1 (.t 22) none (some (.t 24)) none, none⟩, ⟨some 0, .home 1 (.t 25), none⟩])
   (.skip))))
  (.seq (.ops false [⟨some 26, .home 1 (.t 0), none⟩, ⟨some 4, .mv (.t 26), none⟩])
  (.ret)))),
  [.t 4]⟩

/- (*noria/vm.machine).run -/
def d_vm_machine_run : DFun := ⟨
  .seq (.ops false [⟨some 6, .mv (.c (.int .i64 0)), none⟩])
  (.scope (.seq (.ops false [⟨some 7, .mv (.c (.int .i64 0)), none⟩])
  (.seq (.skip)
  (.seq (.block 0 (.loop [0, 1, 2] none (.block 1 (.seq (.seq (.ops false [⟨some 9, .mv (.t 0), none⟩, ⟨some 10, .nilck (.t 9), none⟩, ⟨some 11, .faddr 18 (.t 10), none⟩, ⟨some 12, .load none (.t 11), none⟩, ⟨some 13, .mv (.t 1), none⟩, ⟨some 14, .len (.t 13), none⟩, ⟨some 15, .bin .geq (.t 12) (.t 14), none⟩])
     (.cond (.t 15) (.seq (.ops false [⟨some 6, .mv (.c (.int .i64 13)), none⟩])
      (.ret))
      (.skip)))
     (.seq (.seq (.ops false [⟨some 16, .mv (.t 0), none⟩, ⟨some 17, .nilck (.t 16), none⟩, ⟨some 18, .faddr 19 (.t 17), none⟩, ⟨some 19, .load none (.t 18), none⟩, ⟨some 20, .mv (.t 2), none⟩, ⟨some 21, .bin .geq (.t 19) (.t 20), none⟩])
     (.cond (.t 21) (.seq (.ops false [⟨some 6, .mv (.c (.int .i64 17)), none⟩])
      (.ret))
      (.skip)))
     (.seq (.ops false [⟨some 22, .mv (.t 1), none⟩, ⟨some 23, .mv (.t 0), none⟩, ⟨some 24, .nilck (.t 23), none⟩, ⟨some 25, .faddr 18 (.t 24), none⟩, ⟨some 26, .load none (.t 25), none⟩, ⟨some 27, .iaddr 4 (.t 22) (.t 26), none⟩, ⟨some 28, .load (some 4) (.t 27), none⟩, ⟨some 8, .alloc [.int .i64 0, .int .i64 0, .int .i64 0, .int .i64 0], none⟩, ⟨none, .store 4 (.t 8) (.t 28), none⟩])
     (.seq (.ops false [⟨some 29, .mv (.t 0), none⟩, ⟨some 30, .nilck (.t 29), none⟩, ⟨some 31, .faddr 19 (.t 30), none⟩, ⟨some 32, .load none (.t 31), none⟩, ⟨some 33, .bin .add (.t 32) (.c (.int .i64 1)), none⟩, ⟨some 34, .nilck (.t 29), none⟩, ⟨some 35, .faddr 19 (.t 34), none⟩, ⟨none, .store 1 (.t 35) (.t 33), none⟩])
     (.seq (.ops false [⟨some 36, .mv (.t 0), none⟩, ⟨some 37, .load (some 4) (.t 8), none⟩, ⟨some 38, .callH 35 [(.t 36), (.t 37)], none⟩, ⟨some 7, .mv (.t 38), none⟩])
     (.seq (.ops false [⟨some 39, .mv (.t 7), none⟩, ⟨some 40, .bin .neq (.t 39) (.c (.int .i64 0)), none⟩, ⟨some 41, .mv (.t 40), none⟩, ⟨some 42, .faddr 0 (.t 8), some (41, false)⟩, ⟨some 43, .load none (.t 42), some (41, false)⟩, ⟨some 44, .bin .eql (.t 43) (.c (.int .i64 10)), some (41, false)⟩, ⟨some 45, .pick (.t 41) (.c (.bool true)) (.t 44), none⟩])
     (.cond (.t 45) (.exit 0)
      (.skip)))))))))))
  (.seq (.ops false [⟨some 46, .mv (.t 7), none⟩, ⟨some 6, .mv (.t 46), none⟩])
  (.ret)))))),
  [.t 6]⟩

/- noria/noriaref07.Un -/
def d_noriaref07_Un : DFun := ⟨
  .seq (.ops false [⟨some 4, .mv (.c (.int .i64 0)), none⟩, ⟨some 5, .mv (.c (.int .i64 0)), none⟩])
  (.seq (.seq (.ops false [⟨some 6, .mv (.t 0), none⟩, ⟨some 7, .bin .eql (.t 6) (.c (.int .i64 1)), none⟩])
  (.cond (.t 7) (.seq (.ops false [⟨some 8, .mv (.t 1), none⟩, ⟨some 9, .conv .u64 (.t 8), none⟩, ⟨some 10, .bin .sub (.c (.int .u64 0)) (.t 9), none⟩, ⟨some 11, .conv .i64 (.t 10), none⟩, ⟨some 4, .mv (.t 11), none⟩, ⟨some 5, .mv (.c (.int .i64 0)), none⟩])
   (.ret))
   (.skip)))
  (.seq (.seq (.ops false [⟨some 12, .mv (.t 0), none⟩, ⟨some 13, .bin .eql (.t 12) (.c (.int .i64 2)), none⟩])
  (.cond (.t 13) (.seq (.ops false [⟨some 14, .mv (.t 1), none⟩, ⟨some 15, .bin .eql (.t 14) (.c (.int .i64 0)), none⟩, ⟨some 16, .callP 36 [(.t 15)], none⟩, ⟨some 4, .mv (.t 16), none⟩, ⟨some 5, .mv (.c (.int .i64 0)), none⟩])
   (.ret))
   (.skip)))
  (.seq (.ops false [⟨some 4, .mv (.c (.int .i64 0)), none⟩, ⟨some 5, .mv (.c (.int .i64 1)), none⟩])
  (.ret)))),
  [.t 4, .t 5]⟩

/- noria/noriaref07.Bin -/
def d_noriaref07_Bin : DFun := ⟨
  .seq (.ops false [⟨some 6, .mv (.c (.int .i64 0)), none⟩, ⟨some 7, .mv (.c (.int .i64 0)), none⟩])
  (.seq (.ops false [⟨some 10, .mv (.t 1), none⟩, ⟨some 11, .bin .neq (.t 10) (.c (.int .i64 0)), none⟩, ⟨some 12, .mv (.t 2), none⟩, ⟨some 13, .bin .neq (.t 12) (.c (.int .i64 0)), none⟩, ⟨some 8, .mv (.t 11), none⟩, ⟨some 9, .mv (.t 13), none⟩])
  (.seq (.seq (.ops false [⟨some 14, .mv (.t 0), none⟩])
  (.block 0 (.seq (.seq (.ops false [⟨some 16, .bin .eql (.t 14) (.c (.int .i64 3)), none⟩, ⟨some 15, .mv (.t 16), none⟩])
   (.cond (.t 15) (.skip)
    (.seq (.ops false [⟨some 17, .bin .eql (.t 14) (.c (.int .i64 4)), none⟩, ⟨some 15, .mv (.t 17), none⟩])
    (.cond (.t 15) (.skip)
     (.seq (.ops false [⟨some 18, .bin .eql (.t 14) (.c (.int .i64 5)), none⟩, ⟨some 15, .mv (.t 18), none⟩])
     (.cond (.t 15) (.skip)
      (.seq (.ops false [⟨some 19, .bin .eql (.t 14) (.c (.int .i64 6)), none⟩, ⟨some 15, .mv (.t 19), none⟩])
      (.cond (.t 15) (.skip)
       (.ops false [⟨some 20, .bin .eql (.t 14) (.c (.int .i64 7)), none⟩, ⟨some 15, .mv (.t 20), none⟩])))))))))
   (.cond (.t 15) (.seq (.ops false [⟨some 21, .mv (.t 0), none⟩, ⟨some 22, .mv (.t 1), none⟩, ⟨some 23, .mv (.t 2), none⟩, ⟨some 24, .callP 37 [(.t 21), (.t 22), (.t 23)], none⟩, ⟨some 25, .extract 0 (.t 24), none⟩, ⟨some 26, .extract 1 (.t 24), none⟩, ⟨some 6, .mv (.t 25), none⟩, ⟨some 7, .mv (.t 26), none⟩])
    (.ret))
    (.seq (.ops false [⟨some 28, .bin .eql (.t 14) (.c (.int .i64 8)), none⟩, ⟨some 27, .mv (.t 28), none⟩])
    (.cond (.t 27) (.seq (.ops false [⟨some 29, .mv (.t 8), none⟩, ⟨some 30, .mv (.t 29), none⟩, ⟨some 31, .mv (.t 9), some (30, true)⟩, ⟨some 32, .pick (.t 30) (.t 31) (.c (.bool false)), none⟩, ⟨some 33, .callP 36 [(.t 32)], none⟩, ⟨some 6, .mv (.t 33), none⟩, ⟨some 7, .mv (.c (.int .i64 0)), none⟩])
     (.ret))
     (.seq (.ops false [⟨some 35, .bin .eql (.t 14) (.c (.int .i64 9)), none⟩, ⟨some 34, .mv (.t 35), none⟩])
     (.cond (.t 34) (.seq (.ops false [⟨some 36, .mv (.t 8), none⟩, ⟨some 37, .mv (.t 36), none⟩, ⟨some 38, .mv (.t 9), some (37, false)⟩, ⟨some 39, .pick (.t 37) (.c (.bool true)) (.t 38), none⟩, ⟨some 40, .callP 36 [(.t 39)], none⟩, ⟨some 6, .mv (.t 40), none⟩, ⟨some 7, .mv (.c (.int .i64 0)), none⟩])
      (.ret))
      (.seq (.ops false [⟨some 42, .bin .eql (.t 14) (.c (.int .i64 10)), none⟩, ⟨some 41, .mv (.t 42), none⟩])
      (.cond (.t 41) (.seq (.ops false [⟨some 43, .mv (.t 8), none⟩, ⟨some 44, .mv (.t 9), none⟩, ⟨some 45, .beq true (.t 43) (.t 44), none⟩, ⟨some 46, .callP 36 [(.t 45)], none⟩, ⟨some 6, .mv (.t 46), none⟩, ⟨some 7, .mv (.c (.int .i64 0)), none⟩])
       (.ret))
       (.seq (.ops false [⟨some 48, .bin .eql (.t 14) (.c (.int .i64 11)), none⟩, ⟨some 47, .mv (.t 48), none⟩])
       (.cond (.t 47) (.seq (.ops false [⟨some 49, .mv (.t 1), none⟩, ⟨some 50, .mv (.t 2), none⟩, ⟨some 51, .bin .eql (.t 49) (.t 50), none⟩, ⟨some 52, .callP 36 [(.t 51)], none⟩, ⟨some 6, .mv (.t 52), none⟩, ⟨some 7, .mv (.c (.int .i64 0)), none⟩])
        (.ret))
        (.seq (.ops false [⟨some 54, .bin .eql (.t 14) (.c (.int .i64 12)), none⟩, ⟨some 53, .mv (.t 54), none⟩])
        (.cond (.t 53) (.seq (.ops false [⟨some 55, .mv (.t 1), none⟩, ⟨some 56, .mv (.t 2), none⟩, ⟨some 57, .bin .neq (.t 55) (.t 56), none⟩, ⟨some 58, .callP 36 [(.t 57)], none⟩, ⟨some 6, .mv (.t 58), none⟩, ⟨some 7, .mv (.c (.int .i64 0)), none⟩])
         (.ret))
         (.seq (.ops false [⟨some 60, .bin .eql (.t 14) (.c (.int .i64 13)), none⟩, ⟨some 59, .mv (.t 60), none⟩])
         (.cond (.t 59) (.seq (.ops false [⟨some 61, .mv (.t 1), none⟩, ⟨some 62, .mv (.t 2), none⟩, ⟨some 63, .bin .lss (.t 61) (.t 62), none⟩, ⟨some 64, .callP 36 [(.t 63)], none⟩, ⟨some 6, .mv (.t 64), none⟩, ⟨some 7, .mv (.c (.int .i64 0)), none⟩])
          (.ret))
          (.seq (.ops false [⟨some 66, .bin .eql (.t 14) (.c (.int .i64 14)), none⟩, ⟨some 65, .mv (.t 66), none⟩])
          (.cond (.t 65) (.seq (.ops false [⟨some 67, .mv (.t 1), none⟩, ⟨some 68, .mv (.t 2), none⟩, ⟨some 69, .bin .leq (.t 67) (.t 68), none⟩, ⟨some 70, .callP 36 [(.t 69)], none⟩, ⟨some 6, .mv (.t 70), none⟩, ⟨some 7, .mv (.c (.int .i64 0)), none⟩])
           (.ret))
           (.seq (.ops false [⟨some 72, .bin .eql (.t 14) (.c (.int .i64 15)), none⟩, ⟨some 71, .mv (.t 72), none⟩])
           (.cond (.t 71) (.seq (.ops false [⟨some 73, .mv (.t 1), none⟩, ⟨some 74, .mv (.t 2), none⟩, ⟨some 75, .bin .gtr (.t 73) (.t 74), none⟩, ⟨some 76, .callP 36 [(.t 75)], none⟩, ⟨some 6, .mv (.t 76), none⟩, ⟨some 7, .mv (.c (.int .i64 0)), none⟩])
            (.ret))
            (.seq (.ops false [⟨some 78, .bin .eql (.t 14) (.c (.int .i64 16)), none⟩, ⟨some 77, .mv (.t 78), none⟩])
            (.cond (.t 77) (.seq (.ops false [⟨some 79, .mv (.t 1), none⟩, ⟨some 80, .mv (.t 2), none⟩, ⟨some 81, .bin .geq (.t 79) (.t 80), none⟩, ⟨some 82, .callP 36 [(.t 81)], none⟩, ⟨some 6, .mv (.t 82), none⟩, ⟨some 7, .mv (.c (.int .i64 0)), none⟩])
             (.ret))
             (.skip)))))))))))))))))))))))
  (.seq (.ops false [⟨some 6, .mv (.c (.int .i64 0)), none⟩, ⟨some 7, .mv (.c (.int .i64 1)), none⟩])
  (.ret)))),
  [.t 6, .t 7]⟩

/- (*noria/vm.machine).do -/
def d_vm_machine_do : DFun := ⟨
  .seq (.ops false [⟨some 3, .box (.t 1), none⟩, ⟨some 4, .mv (.c (.int .i64 0)), none⟩])
  (.seq (.seq (.ops false [⟨some 5, .load (some 4) (.t 3), none⟩, ⟨some 6, .callP 38 [(.t 5)], none⟩, ⟨some 7, .un .not (.t 6), none⟩])
  (.cond (.t 7) (.seq (.ops false [⟨some 4, .mv (.c (.int .i64 13)), none⟩])
   (.ret))
   (.skip)))
  (.seq (.ops false [⟨some 8, .mv (.t 0), none⟩, ⟨some 9, .nilck (.t 8), none⟩, ⟨some 10, .faddr 18 (.t 9), none⟩, ⟨some 11, .load none (.t 10), none⟩, ⟨some 12, .bin .add (.t 11) (.c (.int .i64 1)), none⟩, ⟨some 13, .nilck (.t 8), none⟩, ⟨some 14, .faddr 18 (.t 13), none⟩, ⟨none, .store 1 (.t 14) (.t 12), none⟩])
  (.seq (.seq (.ops false [⟨some 15, .faddr 0 (.t 3), none⟩, ⟨some 16, .load none (.t 15), none⟩])
  (.block 0 (.seq (.ops false [⟨some 18, .bin .eql (.t 16) (.c (.int .i64 1)), none⟩, ⟨some 17, .mv (.t 18), none⟩])
   (.cond (.t 17) (.seq (.ops false [⟨some 19, .mv (.t 0), none⟩, ⟨some 20, .faddr 3 (.t 3), none⟩, ⟨some 21, .load none (.t 20), none⟩, ⟨some 22, .callH 39 [(.t 19), (.t 21)], none⟩, ⟨some 4, .mv (.t 22), none⟩])
    (.ret))
    (.seq (.seq (.ops false [⟨some 24, .bin .eql (.t 16) (.c (.int .i64 2)), none⟩, ⟨some 23, .mv (.t 24), none⟩])
    (.cond (.t 23) (.skip)
     (.ops false [⟨some 25, .bin .eql (.t 16) (.c (.int .i64 3)), none⟩, ⟨some 23, .mv (.t 25), none⟩])))
    (.cond (.t 23) (.seq (.ops false [⟨some 26, .mv (.t 0), none⟩, ⟨some 27, .load (some 4) (.t 3), none⟩, ⟨some 28, .callH 40 [(.t 26), (.t 27)], none⟩, ⟨some 4, .mv (.t 28), none⟩])
     (.ret))
     (.seq (.seq (.ops false [⟨some 30, .bin .eql (.t 16) (.c (.int .i64 4)), none⟩, ⟨some 29, .mv (.t 30), none⟩])
     (.cond (.t 29) (.skip)
      (.ops false [⟨some 31, .bin .eql (.t 16) (.c (.int .i64 5)), none⟩, ⟨some 29, .mv (.t 31), none⟩])))
     (.cond (.t 29) (.seq (.ops false [⟨some 32, .mv (.t 0), none⟩, ⟨some 33, .load (some 4) (.t 3), none⟩, ⟨some 34, .callH 41 [(.t 32), (.t 33)], none⟩, ⟨some 4, .mv (.t 34), none⟩])
      (.ret))
      (.seq (.ops false [⟨some 36, .bin .eql (.t 16) (.c (.int .i64 6)), none⟩, ⟨some 35, .mv (.t 36), none⟩])
      (.cond (.t 35) (.ops false [⟨some 37, .mv (.t 0), none⟩, ⟨some 38, .faddr 1 (.t 3), none⟩, ⟨some 39, .load none (.t 38), none⟩, ⟨some 40, .nilck (.t 37), none⟩, ⟨some 41, .faddr 18 (.t 40), none⟩, ⟨none, .store 1 (.t 41) (.t 39), none⟩])
       (.seq (.ops false [⟨some 43, .bin .eql (.t 16) (.c (.int .i64 7)), none⟩, ⟨some 42, .mv (.t 43), none⟩])
       (.cond (.t 42) (.seq (.seq (.ops false [⟨some 44, .mv (.t 0), none⟩, ⟨some 45, .callH 42 [(.t 44), (.c (.int .i64 1))], none⟩, ⟨some 46, .un .not (.t 45), none⟩])
        (.cond (.t 46) (.seq (.ops false [⟨some 4, .mv (.c (.int .i64 13)), none⟩])
         (.ret))
         (.skip)))
        (.seq (.ops false [⟨some 47, .mv (.t 0), none⟩, ⟨some 48, .callH 43 [(.t 47)], none⟩, ⟨some 49, .bin .eql (.t 48) (.c (.int .i64 0)), none⟩])
        (.cond (.t 49) (.ops false [⟨some 50, .mv (.t 0), none⟩, ⟨some 51, .faddr 1 (.t 3), none⟩, ⟨some 52, .load none (.t 51), none⟩, ⟨some 53, .nilck (.t 50), none⟩, ⟨some 54, .faddr 18 (.t 53), none⟩, ⟨none, .store 1 (.t 54) (.t 52), none⟩])
         (.skip))))
        (.seq (.ops false [⟨some 56, .bin .eql (.t 16) (.c (.int .i64 8)), none⟩, ⟨some 55, .mv (.t 56), none⟩])
        (.cond (.t 55) (.seq (.ops false [⟨some 57, .mv (.t 0), none⟩, ⟨some 58, .load (some 4) (.t 3), none⟩, ⟨some 59, .callH 44 [(.t 57), (.t 58)], none⟩, ⟨some 4, .mv (.t 59), none⟩])
         (.ret))
         (.seq (.ops false [⟨some 61, .bin .eql (.t 16) (.c (.int .i64 9)), none⟩, ⟨some 60, .mv (.t 61), none⟩])
         (.cond (.t 60) (.seq (.ops false [⟨some 62, .mv (.t 0), none⟩, ⟨some 63, .load (some 4) (.t 3), none⟩, ⟨some 64, .callH 45 [(.t 62), (.t 63)], none⟩, ⟨some 4, .mv (.t 64), none⟩])
          (.ret))
          (.skip)))))))))))))))))
  (.seq (.ops false [⟨some 4, .mv (.c (.int .i64 0)), none⟩])
  (.ret))))),
  [.t 4]⟩

/- noria/noriaref07.truth -/
def d_noriaref07_truth : DFun := ⟨
  .seq (.ops false [⟨some 2, .mv (.c (.int .i64 0)), none⟩])
  (.seq (.seq (.ops false [⟨some 3, .mv (.t 0), none⟩])
  (.cond (.t 3) (.seq (.ops false [⟨some 2, .mv (.c (.int .i64 1)), none⟩])
   (.ret))
   (.skip)))
  (.seq (.ops false [⟨some 2, .mv (.c (.int .i64 0)), none⟩])
  (.ret))),
  [.t 2]⟩

/- noria/noriaref07.number -/
def d_noriaref07_number : DFun := ⟨
  .seq (.ops false [⟨some 6, .mv (.c (.int .i64 0)), none⟩, ⟨some 7, .mv (.c (.int .i64 0)), none⟩])
  (.seq (.seq (.ops false [⟨some 9, .mv (.t 0), none⟩])
  (.block 0 (.seq (.ops false [⟨some 11, .bin .eql (.t 9) (.c (.int .i64 3)), none⟩, ⟨some 10, .mv (.t 11), none⟩])
   (.cond (.t 10) (.seq (.ops false [⟨some 12, .mv (.t 1), none⟩, ⟨some 13, .conv .u64 (.t 12), none⟩, ⟨some 14, .mv (.t 2), none⟩, ⟨some 15, .conv .u64 (.t 14), none⟩, ⟨some 16, .bin .add (.t 13) (.t 15), none⟩, ⟨some 17, .conv .i64 (.t 16), none⟩, ⟨some 6, .mv (.t 17), none⟩, ⟨some 7, .mv (.c (.int .i64 0)), none⟩])
    (.ret))
    (.seq (.ops false [⟨some 19, .bin .eql (.t 9) (.c (.int .i64 4)), none⟩, ⟨some 18, .mv (.t 19), none⟩])
    (.cond (.t 18) (.seq (.ops false [⟨some 20, .mv (.t 1), none⟩, ⟨some 21, .conv .u64 (.t 20), none⟩, ⟨some 22, .mv (.t 2), none⟩, ⟨some 23, .conv .u64 (.t 22), none⟩, ⟨some 24, .bin .sub (.t 21) (.t 23), none⟩, ⟨some 25, .conv .i64 (.t 24), none⟩, ⟨some 6, .mv (.t 25), none⟩, ⟨some 7, .mv (.c (.int .i64 0)), none⟩])
     (.ret))
     (.seq (.ops false [⟨some 27, .bin .eql (.t 9) (.c (.int .i64 5)), none⟩, ⟨some 26, .mv (.t 27), none⟩])
     (.cond (.t 26) (.seq (.ops false [⟨some 28, .mv (.t 1), none⟩, ⟨some 29, .conv .u64 (.t 28), none⟩, ⟨some 30, .mv (.t 2), none⟩, ⟨some 31, .conv .u64 (.t 30), none⟩, ⟨some 32, .bin .mul (.t 29) (.t 31), none⟩, ⟨some 33, .conv .i64 (.t 32), none⟩, ⟨some 6, .mv (.t 33), none⟩, ⟨some 7, .mv (.c (.int .i64 0)), none⟩])
      (.ret))
      (.skip)))))))))
  (.seq (.seq (.ops false [⟨some 34, .mv (.t 2), none⟩, ⟨some 35, .bin .eql (.t 34) (.c (.int .i64 0)), none⟩])
  (.cond (.t 35) (.seq (.ops false [⟨some 6, .mv (.c (.int .i64 0)), none⟩, ⟨some 7, .mv (.c (.int .i64 15)), none⟩])
   (.ret))
   (.skip)))
  (.seq (.ops false [⟨some 36, .mv (.t 1), none⟩, ⟨some 37, .mv (.t 2), none⟩, ⟨some 38, .callP 46 [(.t 36), (.t 37)], none⟩, ⟨some 8, .mv (.t 38), none⟩])
  (.seq (.seq (.ops false [⟨some 39, .mv (.t 0), none⟩, ⟨some 40, .bin .eql (.t 39) (.c (.int .i64 6)), none⟩])
  (.cond (.t 40) (.seq (.ops false [⟨some 41, .mv (.t 8), none⟩, ⟨some 6, .mv (.t 41), none⟩, ⟨some 7, .mv (.c (.int .i64 0)), none⟩])
   (.ret))
   (.skip)))
  (.seq (.ops false [⟨some 42, .mv (.t 1), none⟩, ⟨some 43, .conv .u64 (.t 42), none⟩, ⟨some 44, .mv (.t 2), none⟩, ⟨some 45, .conv .u64 (.t 44), none⟩, ⟨some 46, .mv (.t 8), none⟩, ⟨some 47, .conv .u64 (.t 46), none⟩, ⟨some 48, .bin .mul (.t 45) (.t 47), none⟩, ⟨some 49, .bin .sub (.t 43) (.t 48), none⟩, ⟨some 50, .conv .i64 (.t 49), none⟩, ⟨some 6, .mv (.t 50), none⟩, ⟨some 7, .mv (.c (.int .i64 0)), none⟩])
  (.ret)))))),
  [.t 6, .t 7]⟩

/- noria/instr.Right -/
def d_instr_Right : DFun := ⟨
  .seq (.ops false [⟨some 1, .box (.t 0), none⟩, ⟨some 2, .mv (.c (.bool false)), none⟩])
  (.seq (.ops false [⟨some 6, .faddr 0 (.t 1), none⟩, ⟨some 7, .load none (.t 6), none⟩, ⟨some 8, .callP 47 [(.t 7)], none⟩, ⟨some 5, .mv (.t 8), none⟩, ⟨some 9, .extract 0 (.t 5), none⟩, ⟨some 10, .extract 1 (.t 5), none⟩, ⟨some 3, .alloc [.str [], .bool false, .bool false, .bool false, .bool false], none⟩, ⟨none, .store 5 (.t 3) (.t 9), none⟩, ⟨some 4, .mv (.t 10), none⟩])
  (.seq (.seq (.ops false [⟨some 11, .mv (.t 4), none⟩, ⟨some 12, .un .not (.t 11), none⟩, ⟨some 13, .mv (.t 12), none⟩, ⟨some 14, .load (some 4) (.t 1), some (13, false)⟩, ⟨some 15, .callP 48 [(.t 14)], some (13, false)⟩, ⟨some 16, .un .not (.t 15), some (13, false)⟩, ⟨some 17, .pick (.t 13) (.c (.bool true)) (.t 16), none⟩, ⟨some 18, .mv (.t 17), none⟩, ⟨some 19, .faddr 4 (.t 3), some (18, false)⟩, ⟨some 20, .load none (.t 19), some (18, false)⟩, ⟨some 21, .un .not (.t 20), some (18, false)⟩, ⟨some 22, .mv (.t 21), some (18, false)⟩, ⟨some 23, .faddr 3 (.t 1), some (22, true)⟩, ⟨some 24, .load none (.t 23), some (22, true)⟩, ⟨some 25, .bin .neq (.t 24) (.c (.int .i64 0)), some (22, true)⟩, ⟨some 26, .pick (.t 22) (.t 25) (.c (.bool false)), some (18, false)⟩, ⟨some 27, .pick (.t 18) (.c (.bool true)) (.t 26), none⟩])
  (.cond (.t 27) (.seq (.ops false [⟨some 2, .mv (.c (.bool false)), none⟩])
   (.ret))
   (.skip)))
  (.seq (.seq (.ops false [⟨some 28, .faddr 3 (.t 3), none⟩, ⟨some 29, .load none (.t 28), none⟩])
  (.cond (.t 29) (.seq (.ops false [⟨some 30, .faddr 2 (.t 1), none⟩, ⟨some 31, .load none (.t 30), none⟩, ⟨some 32, .callP 49 [(.t 31), (.c (.int .i64 1)), (.c (.int .i64 8))], none⟩, ⟨some 2, .mv (.t 32), none⟩])
   (.ret))
   (.skip)))
  (.seq (.ops false [⟨some 33, .faddr 2 (.t 1), none⟩, ⟨some 34, .load none (.t 33), none⟩, ⟨some 35, .bin .eql (.t 34) (.c (.int .i64 0)), none⟩, ⟨some 2, .mv (.t 35), none⟩])
  (.ret))))),
  [.t 2]⟩

/- (*noria/vm.machine).push -/
def d_vm_machine_push : DFun := ⟨
  .seq (.ops false [⟨some 4, .mv (.c (.int .i64 0)), none⟩])
  (.seq (.seq (.ops false [⟨some 5, .mv (.t 0), none⟩, ⟨some 6, .nilck (.t 5), none⟩, ⟨some 7, .faddr 17 (.t 6), none⟩, ⟨some 8, .load none (.t 7), none⟩, ⟨some 9, .bin .eql (.t 8) (.c (.int .i64 16)), none⟩])
  (.cond (.t 9) (.seq (.ops false [⟨some 4, .mv (.c (.int .i64 13)), none⟩])
   (.ret))
   (.skip)))
  (.seq (.ops true [⟨some 10, .mv (.t 0), none⟩, ⟨some 11, .mv (.t 0), none⟩, ⟨some 12, .nilck (.t 11), none⟩, ⟨some 13, .faddr 17 (.t 12), none⟩, ⟨some 14, .load none (.t 13), none⟩, ⟨some 15, .mv (.t 1), none⟩, ⟨some 16, .nilck (.t 10), none⟩, ⟨some 17, .faddr 1 (.t 16), none⟩, ⟨some 18, .iaddrA 16 1 (.t 17) (.t 14), none⟩, ⟨none, .store 1 (.t 18) (.t 15), none⟩])
  (.seq (.ops false [⟨some 19, .mv (.t 0), none⟩, ⟨some 20, .nilck (.t 19), none⟩, ⟨some 21, .faddr 17 (.t 20), none⟩, ⟨some 22, .load none (.t 21), none⟩, ⟨some 23, .bin .add (.t 22) (.c (.int .i64 1)), none⟩, ⟨some 24, .nilck (.t 19), none⟩, ⟨some 25, .faddr 17 (.t 24), none⟩, ⟨none, .store 1 (.t 25) (.t 23), none⟩])
  (.seq (.ops false [⟨some 4, .mv (.c (.int .i64 0)), none⟩])
  (.ret))))),
  [.t 4]⟩

/- (*noria/vm.machine).move -/
def d_vm_machine_move : DFun := ⟨
  .seq (.ops false [⟨some 3, .box (.t 1), none⟩, ⟨some 4, .mv (.c (.int .i64 0)), none⟩])
  (.seq (.seq (.ops false [⟨some 5, .mv (.t 0), none⟩, ⟨some 6, .faddr 1 (.t 3), none⟩, ⟨some 7, .load none (.t 6), none⟩, ⟨some 8, .callH 50 [(.t 5), (.t 7), (.c (.int .i64 1))], none⟩, ⟨some 9, .un .not (.t 8), none⟩])
  (.cond (.t 9) (.seq (.ops false [⟨some 4, .mv (.c (.int .i64 13)), none⟩])
   (.ret))
   (.skip)))
  (.seq (.seq (.ops false [⟨some 10, .faddr 0 (.t 3), none⟩, ⟨some 11, .load none (.t 10), none⟩, ⟨some 12, .bin .eql (.t 11) (.c (.int .i64 2)), none⟩])
  (.cond (.t 12) (.seq (.ops true [⟨some 13, .mv (.t 0), none⟩, ⟨some 14, .mv (.t 0), none⟩, ⟨some 15, .nilck (.t 14), none⟩, ⟨some 16, .faddr 0 (.t 15), none⟩, ⟨some 17, .load none (.t 16), none⟩, ⟨some 18, .faddr 1 (.t 3), none⟩, ⟨some 19, .load none (.t 18), none⟩, ⟨some 20, .iaddr 1 (.t 17) (.t 19), none⟩, ⟨some 21, .load none (.t 20), none⟩, ⟨some 22, .callH 39 [(.t 13), (.t 21)], none⟩, ⟨some 4, .mv (.t 22), none⟩])
   (.ret))
   (.skip)))
  (.seq (.seq (.ops false [⟨some 23, .mv (.t 0), none⟩, ⟨some 24, .callH 42 [(.t 23), (.c (.int .i64 1))], none⟩, ⟨some 25, .un .not (.t 24), none⟩])
  (.cond (.t 25) (.seq (.ops false [⟨some 4, .mv (.c (.int .i64 13)), none⟩])
   (.ret))
   (.skip)))
  (.seq (.opsS [] [(0, ⟨some 26, .mv (.t 0), none⟩), (1, ⟨some 27, .rk 17 (.nilck (.t 26)), none⟩), (2, ⟨some 28, .rk 17 (.faddr 0 (.t 27)), none⟩), (3, ⟨some 29, .rk 17 (.load none (.t 28)), none⟩), (4, ⟨some 30, .rk 17 (.faddr 1 (.t 3)), none⟩), (5, ⟨some 31, .rk 17 (.load none (.t 30)), none⟩), (6, ⟨some 32, .mv (.t 0), none⟩), (7, ⟨some 33, .tk 32 17 (.callH 43 [(.t 32)]), none⟩), (8, ⟨some 34, .iaddr 1 (.t 29) (.t 31), none⟩), (9, ⟨none, .store 1 (.t 34) (.t 33), none⟩)])
  (.seq (.ops false [⟨some 4, .mv (.c (.int .i64 0)), none⟩])
  (.ret)))))),
  [.t 4]⟩

/- (*noria/vm.machine).operate -/
def d_vm_machine_operate : DFun := ⟨
  .seq (.ops false [⟨some 3, .box (.t 1), none⟩, ⟨some 4, .mv (.c (.int .i64 0)), none⟩])
  (.seq (.ops false [⟨some 5, .mv (.c (.int .i64 0)), none⟩])
  (.seq (.ops false [⟨some 6, .mv (.c (.int .i64 0)), none⟩])
  (.seq (.seq (.ops false [⟨some 8, .faddr 0 (.t 3), none⟩, ⟨some 9, .load none (.t 8), none⟩, ⟨some 10, .bin .eql (.t 9) (.c (.int .i64 4)), none⟩])
  (.cond (.t 10) (.seq (.seq (.ops false [⟨some 11, .mv (.t 0), none⟩, ⟨some 12, .callH 42 [(.t 11), (.c (.int .i64 1))], none⟩, ⟨some 13, .un .not (.t 12), none⟩])
   (.cond (.t 13) (.seq (.ops false [⟨some 4, .mv (.c (.int .i64 13)), none⟩])
    (.ret))
    (.skip)))
   (.opsS [(3, 17), (15, 17), (3, 0), (15, 0)] [(0, ⟨some 15, .faddr 1 (.t 3), none⟩), (1, ⟨some 16, .load none (.t 15), none⟩), (2, ⟨some 17, .mv (.t 0), none⟩), (3, ⟨some 18, .to 17 (.callH 43 [(.t 17)]), none⟩), (4, ⟨some 19, .rd (.callP 51 [(.t 16), (.t 18)]), none⟩), (5, ⟨some 14, .mv (.t 19), none⟩), (6, ⟨some 20, .extract 0 (.t 14), none⟩), (7, ⟨some 21, .extract 1 (.t 14), none⟩), (8, ⟨some 5, .mv (.t 20), none⟩), (9, ⟨some 6, .mv (.t 21), none⟩)]))
   (.seq (.seq (.ops false [⟨some 22, .mv (.t 0), none⟩, ⟨some 23, .callH 42 [(.t 22), (.c (.int .i64 2))], none⟩, ⟨some 24, .un .not (.t 23), none⟩])
   (.cond (.t 24) (.seq (.ops false [⟨some 4, .mv (.c (.int .i64 13)), none⟩])
    (.ret))
    (.skip)))
   (.seq (.ops false [⟨some 25, .mv (.t 0), none⟩, ⟨some 26, .callH 43 [(.t 25)], none⟩, ⟨some 7, .mv (.t 26), none⟩])
   (.opsS [(3, 30), (28, 30), (3, 0), (28, 0)] [(0, ⟨some 28, .faddr 1 (.t 3), none⟩), (1, ⟨some 29, .load none (.t 28), none⟩), (2, ⟨some 30, .mv (.t 0), none⟩), (4, ⟨some 32, .mv (.t 7), none⟩), (3, ⟨some 31, .to 30 (.callH 43 [(.t 30)]), none⟩), (5, ⟨some 33, .rd (.callP 52 [(.t 29), (.t 31), (.t 32)]), none⟩), (6, ⟨some 27, .mv (.t 33), none⟩), (7, ⟨some 34, .extract 0 (.t 27), none⟩), (8, ⟨some 35, .extract 1 (.t 27), none⟩), (9, ⟨some 5, .mv (.t 34), none⟩), (10, ⟨some 6, .mv (.t 35), none⟩)])))))
  (.seq (.seq (.ops false [⟨some 36, .mv (.t 6), none⟩, ⟨some 37, .bin .neq (.t 36) (.c (.int .i64 0)), none⟩])
  (.cond (.t 37) (.seq (.ops false [⟨some 38, .mv (.t 6), none⟩, ⟨some 4, .mv (.t 38), none⟩])
   (.ret))
   (.skip)))
  (.seq (.ops false [⟨some 39, .mv (.t 0), none⟩, ⟨some 40, .mv (.t 5), none⟩, ⟨some 41, .callH 39 [(.t 39), (.t 40)], none⟩, ⟨some 4, .mv (.t 41), none⟩])
  (.ret)))))),
  [.t 4]⟩

/- (*noria/vm.machine).has -/
def d_vm_machine_has : DFun := ⟨
  .seq (.ops false [⟨some 4, .mv (.c (.bool false)), none⟩])
  (.seq (.ops false [⟨some 5, .mv (.t 0), none⟩, ⟨some 6, .nilck (.t 5), none⟩, ⟨some 7, .faddr 17 (.t 6), none⟩, ⟨some 8, .load none (.t 7), none⟩, ⟨some 9, .mv (.t 1), none⟩, ⟨some 10, .bin .geq (.t 8) (.t 9), none⟩, ⟨some 4, .mv (.t 10), none⟩])
  (.ret)),
  [.t 4]⟩

/- (*noria/vm.machine).pop -/
def d_vm_machine_pop : DFun := ⟨
  .seq (.ops false [⟨some 2, .mv (.c (.int .i64 0)), none⟩])
  (.seq (.ops false [⟨some 3, .mv (.t 0), none⟩, ⟨some 4, .nilck (.t 3), none⟩, ⟨some 5, .faddr 17 (.t 4), none⟩, ⟨some 6, .load none (.t 5), none⟩, ⟨some 7, .bin .sub (.t 6) (.c (.int .i64 1)), none⟩, ⟨some 8, .nilck (.t 3), none⟩, ⟨some 9, .faddr 17 (.t 8), none⟩, ⟨none, .store 1 (.t 9) (.t 7), none⟩])
  (.seq (.ops true [⟨some 10, .mv (.t 0), none⟩, ⟨some 11, .mv (.t 0), none⟩, ⟨some 12, .nilck (.t 11), none⟩, ⟨some 13, .faddr 17 (.t 12), none⟩, ⟨some 14, .load none (.t 13), none⟩, ⟨some 15, .nilck (.t 10), none⟩, ⟨some 16, .faddr 1 (.t 15), none⟩, ⟨some 17, .iaddrA 16 1 (.t 16) (.t 14), none⟩, ⟨some 18, .load none (.t 17), none⟩, ⟨some 2, .mv (.t 18), none⟩])
  (.ret))),
  [.t 2]⟩

/- (*noria/vm.machine).get -/
def d_vm_machine_get : DFun := ⟨
  .seq (.ops false [⟨some 3, .box (.t 1), none⟩, ⟨some 4, .mv (.c (.int .i64 0)), none⟩])
  (.seq (.seq (.ops false [⟨some 6, .mv (.t 0), none⟩, ⟨some 7, .callH 42 [(.t 6), (.c (.int .i64 1))], none⟩, ⟨some 8, .un .not (.t 7), none⟩, ⟨some 9, .mv (.t 8), none⟩, ⟨some 10, .mv (.t 0), some (9, false)⟩, ⟨some 11, .faddr 1 (.t 3), some (9, false)⟩, ⟨some 12, .load none (.t 11), some (9, false)⟩, ⟨some 13, .faddr 2 (.t 3), some (9, false)⟩, ⟨some 14, .load none (.t 13), some (9, false)⟩, ⟨some 15, .callH 50 [(.t 10), (.t 12), (.t 14)], some (9, false)⟩, ⟨some 16, .un .not (.t 15), some (9, false)⟩, ⟨some 17, .pick (.t 9) (.c (.bool true)) (.t 16), none⟩])
  (.cond (.t 17) (.seq (.ops false [⟨some 4, .mv (.c (.int .i64 13)), none⟩])
   (.ret))
   (.skip)))
  (.seq (.ops false [⟨some 18, .mv (.t 0), none⟩, ⟨some 19, .callH 43 [(.t 18)], none⟩, ⟨some 5, .mv (.t 19), none⟩])
  (.seq (.seq (.ops false [⟨some 20, .mv (.t 5), none⟩, ⟨some 21, .bin .lss (.t 20) (.c (.int .i64 0)), none⟩, ⟨some 22, .mv (.t 21), none⟩, ⟨some 23, .mv (.t 5), some (22, false)⟩, ⟨some 24, .faddr 2 (.t 3), some (22, false)⟩, ⟨some 25, .load none (.t 24), some (22, false)⟩, ⟨some 26, .bin .geq (.t 23) (.t 25), some (22, false)⟩, ⟨some 27, .pick (.t 22) (.c (.bool true)) (.t 26), none⟩])
  (.cond (.t 27) (.seq (.ops false [⟨some 4, .mv (.c (.int .i64 16)), none⟩])
   (.ret))
   (.skip)))
  (.seq (.ops true [⟨some 28, .mv (.t 0), none⟩, ⟨some 29, .mv (.t 0), none⟩, ⟨some 30, .nilck (.t 29), none⟩, ⟨some 31, .faddr 0 (.t 30), none⟩, ⟨some 32, .load none (.t 31), none⟩, ⟨some 33, .faddr 1 (.t 3), none⟩, ⟨some 34, .load none (.t 33), none⟩, ⟨some 35, .slice 1 (.t 32) (some (.t 34)) none none, none⟩, ⟨some 36, .mv (.t 5), none⟩, ⟨some 37, .iaddr 1 (.t 35) (.t 36), none⟩, ⟨some 38, .load none (.t 37), none⟩, ⟨some 39, .callH 39 [(.t 28), (.t 38)], none⟩, ⟨some 4, .mv (.t 39), none⟩])
  (.ret))))),
  [.t 4]⟩

/- (*noria/vm.machine).put -/
def d_vm_machine_put : DFun := ⟨
  .seq (.ops false [⟨some 3, .box (.t 1), none⟩, ⟨some 4, .mv (.c (.int .i64 0)), none⟩])
  (.seq (.seq (.ops false [⟨some 7, .mv (.t 0), none⟩, ⟨some 8, .callH 42 [(.t 7), (.c (.int .i64 2))], none⟩, ⟨some 9, .un .not (.t 8), none⟩, ⟨some 10, .mv (.t 9), none⟩, ⟨some 11, .mv (.t 0), some (10, false)⟩, ⟨some 12, .faddr 1 (.t 3), some (10, false)⟩, ⟨some 13, .load none (.t 12), some (10, false)⟩, ⟨some 14, .faddr 2 (.t 3), some (10, false)⟩, ⟨some 15, .load none (.t 14), some (10, false)⟩, ⟨some 16, .callH 50 [(.t 11), (.t 13), (.t 15)], some (10, false)⟩, ⟨some 17, .un .not (.t 16), some (10, false)⟩, ⟨some 18, .pick (.t 10) (.c (.bool true)) (.t 17), none⟩])
  (.cond (.t 18) (.seq (.ops false [⟨some 4, .mv (.c (.int .i64 13)), none⟩])
   (.ret))
   (.skip)))
  (.seq (.ops false [⟨some 19, .mv (.t 0), none⟩, ⟨some 20, .callH 43 [(.t 19)], none⟩, ⟨some 5, .mv (.t 20), none⟩])
  (.seq (.ops false [⟨some 21, .mv (.t 0), none⟩, ⟨some 22, .callH 43 [(.t 21)], none⟩, ⟨some 6, .mv (.t 22), none⟩])
  (.seq (.seq (.ops false [⟨some 23, .mv (.t 5), none⟩, ⟨some 24, .bin .lss (.t 23) (.c (.int .i64 0)), none⟩, ⟨some 25, .mv (.t 24), none⟩, ⟨some 26, .mv (.t 5), some (25, false)⟩, ⟨some 27, .faddr 2 (.t 3), some (25, false)⟩, ⟨some 28, .load none (.t 27), some (25, false)⟩, ⟨some 29, .bin .geq (.t 26) (.t 28), some (25, false)⟩, ⟨some 30, .pick (.t 25) (.c (.bool true)) (.t 29), none⟩])
  (.cond (.t 30) (.seq (.ops false [⟨some 4, .mv (.c (.int .i64 16)), none⟩])
   (.ret))
   (.skip)))
  (.seq (.ops true [⟨some 31, .mv (.t 0), none⟩, ⟨some 32, .nilck (.t 31), none⟩, ⟨some 33, .faddr 0 (.t 32), none⟩, ⟨some 34, .load none (.t 33), none⟩, ⟨some 35, .faddr 1 (.t 3), none⟩, ⟨some 36, .load none (.t 35), none⟩, ⟨some 37, .slice 1 (.t 34) (some (.t 36)) none none, none⟩, ⟨some 38, .mv (.t 5), none⟩, ⟨some 39, .mv (.t 6), none⟩, ⟨some 40, .iaddr 1 (.t 37) (.t 38), none⟩, ⟨none, .store 1 (.t 40) (.t 39), none⟩])
  (.seq (.ops false [⟨some 4, .mv (.c (.int .i64 0)), none⟩])
  (.ret))))))),
  [.t 4]⟩

/- noria/noriaref07.quotient -/
def d_noriaref07_quotient : DFun := ⟨
  .seq (.ops false [⟨some 4, .mv (.c (.int .i64 0)), none⟩])
  (.seq (.ops false [⟨some 6, .mv (.t 0), none⟩, ⟨some 7, .callP 53 [(.t 6)], none⟩, ⟨some 8, .mv (.t 1), none⟩, ⟨some 9, .callP 53 [(.t 8)], none⟩, ⟨some 10, .bin .quo (.t 7) (.t 9), none⟩, ⟨some 5, .mv (.t 10), none⟩])
  (.seq (.seq (.ops false [⟨some 11, .mv (.t 0), none⟩, ⟨some 12, .bin .lss (.t 11) (.c (.int .i64 0)), none⟩, ⟨some 13, .mv (.t 1), none⟩, ⟨some 14, .bin .lss (.t 13) (.c (.int .i64 0)), none⟩, ⟨some 15, .beq true (.t 12) (.t 14), none⟩])
  (.cond (.t 15) (.ops false [⟨some 16, .mv (.t 5), none⟩, ⟨some 17, .bin .sub (.c (.int .u64 0)) (.t 16), none⟩, ⟨some 5, .mv (.t 17), none⟩])
   (.skip)))
  (.seq (.ops false [⟨some 18, .mv (.t 5), none⟩, ⟨some 19, .conv .i64 (.t 18), none⟩, ⟨some 4, .mv (.t 19), none⟩])
  (.ret)))),
  [.t 4]⟩

/- noria/instr.of -/
def d_instr_of : DFun := ⟨
  .seq (.ops false [⟨some 2, .alloc [.str [], .bool false, .bool false, .bool false, .bool false], none⟩, ⟨some 3, .mv (.c (.bool false)), none⟩])
  (.seq (.seq (.ops false [⟨some 4, .mv (.t 0), none⟩])
  (.block 0 (.seq (.ops false [⟨some 6, .bin .eql (.t 4) (.c (.int .i64 1)), none⟩, ⟨some 5, .mv (.t 6), none⟩])
   (.cond (.t 5) (.seq (.ops false [⟨some 7, .build [.str [], .bool false, .bool false, .bool false, .bool false] [(0, 1, (.c (.str [112, 117, 115, 104]))), (1, 1, (.c (.bool true))), (4, 1, (.c (.bool true)))], none⟩, ⟨none, .store 5 (.t 2) (.t 7), none⟩, ⟨some 3, .mv (.c (.bool true)), none⟩])
    (.ret))
    (.seq (.ops false [⟨some 9, .bin .eql (.t 4) (.c (.int .i64 2)), none⟩, ⟨some 8, .mv (.t 9), none⟩])
    (.cond (.t 8) (.seq (.ops false [⟨some 10, .build [.str [], .bool false, .bool false, .bool false, .bool false] [(0, 1, (.c (.str [108, 111, 97, 100]))), (1, 1, (.c (.bool true)))], none⟩, ⟨none, .store 5 (.t 2) (.t 10), none⟩, ⟨some 3, .mv (.c (.bool true)), none⟩])
     (.ret))
     (.seq (.ops false [⟨some 12, .bin .eql (.t 4) (.c (.int .i64 3)), none⟩, ⟨some 11, .mv (.t 12), none⟩])
     (.cond (.t 11) (.seq (.ops false [⟨some 13, .build [.str [], .bool false, .bool false, .bool false, .bool false] [(0, 1, (.c (.str [115, 116, 111, 114, 101]))), (1, 1, (.c (.bool true)))], none⟩, ⟨none, .store 5 (.t 2) (.t 13), none⟩, ⟨some 3, .mv (.c (.bool true)), none⟩])
      (.ret))
      (.seq (.ops false [⟨some 15, .bin .eql (.t 4) (.c (.int .i64 4)), none⟩, ⟨some 14, .mv (.t 15), none⟩])
      (.cond (.t 14) (.seq (.ops false [⟨some 16, .build [.str [], .bool false, .bool false, .bool false, .bool false] [(0, 1, (.c (.str [117, 110]))), (2, 1, (.c (.bool true)))], none⟩, ⟨none, .store 5 (.t 2) (.t 16), none⟩, ⟨some 3, .mv (.c (.bool true)), none⟩])
       (.ret))
       (.seq (.ops false [⟨some 18, .bin .eql (.t 4) (.c (.int .i64 5)), none⟩, ⟨some 17, .mv (.t 18), none⟩])
       (.cond (.t 17) (.seq (.ops false [⟨some 19, .build [.str [], .bool false, .bool false, .bool false, .bool false] [(0, 1, (.c (.str [98, 105, 110]))), (2, 1, (.c (.bool true)))], none⟩, ⟨none, .store 5 (.t 2) (.t 19), none⟩, ⟨some 3, .mv (.c (.bool true)), none⟩])
        (.ret))
        (.seq (.ops false [⟨some 21, .bin .eql (.t 4) (.c (.int .i64 6)), none⟩, ⟨some 20, .mv (.t 21), none⟩])
        (.cond (.t 20) (.seq (.ops false [⟨some 22, .build [.str [], .bool false, .bool false, .bool false, .bool false] [(0, 1, (.c (.str [106, 117, 109, 112]))), (1, 1, (.c (.bool true)))], none⟩, ⟨none, .store 5 (.t 2) (.t 22), none⟩, ⟨some 3, .mv (.c (.bool true)), none⟩])
         (.ret))
         (.seq (.ops false [⟨some 24, .bin .eql (.t 4) (.c (.int .i64 7)), none⟩, ⟨some 23, .mv (.t 24), none⟩])
         (.cond (.t 23) (.seq (.ops false [⟨some 25, .build [.str [], .bool false, .bool false, .bool false, .bool false] [(0, 1, (.c (.str [122, 101, 114, 111]))), (1, 1, (.c (.bool true)))], none⟩, ⟨none, .store 5 (.t 2) (.t 25), none⟩, ⟨some 3, .mv (.c (.bool true)), none⟩])
          (.ret))
          (.seq (.ops false [⟨some 27, .bin .eql (.t 4) (.c (.int .i64 8)), none⟩, ⟨some 26, .mv (.t 27), none⟩])
          (.cond (.t 26) (.seq (.ops false [⟨some 28, .build [.str [], .bool false, .bool false, .bool false, .bool false] [(0, 1, (.c (.str [103, 101, 116]))), (1, 1, (.c (.bool true))), (3, 1, (.c (.bool true)))], none⟩, ⟨none, .store 5 (.t 2) (.t 28), none⟩, ⟨some 3, .mv (.c (.bool true)), none⟩])
           (.ret))
           (.seq (.ops false [⟨some 30, .bin .eql (.t 4) (.c (.int .i64 9)), none⟩, ⟨some 29, .mv (.t 30), none⟩])
           (.cond (.t 29) (.seq (.ops false [⟨some 31, .build [.str [], .bool false, .bool false, .bool false, .bool false] [(0, 1, (.c (.str [112, 117, 116]))), (1, 1, (.c (.bool true))), (3, 1, (.c (.bool true)))], none⟩, ⟨none, .store 5 (.t 2) (.t 31), none⟩, ⟨some 3, .mv (.c (.bool true)), none⟩])
            (.ret))
            (.seq (.ops false [⟨some 33, .bin .eql (.t 4) (.c (.int .i64 10)), none⟩, ⟨some 32, .mv (.t 33), none⟩])
            (.cond (.t 32) (.seq (.ops false [⟨some 34, .build [.str [], .bool false, .bool false, .bool false, .bool false] [(0, 1, (.c (.str [104, 97, 108, 116])))], none⟩, ⟨none, .store 5 (.t 2) (.t 34), none⟩, ⟨some 3, .mv (.c (.bool true)), none⟩])
             (.ret))
             (.skip)))))))))))))))))))))))
  (.seq (.ops false [⟨some 35, .build [.str [], .bool false, .bool false, .bool false, .bool false] [], none⟩, ⟨none, .store 5 (.t 2) (.t 35), none⟩, ⟨some 3, .mv (.c (.bool false)), none⟩])
  (.ret))),
  [.cell 2 (some 5), .t 3]⟩

/- noria/instr.first -/
def d_instr_first : DFun := ⟨
  .seq (.ops false [⟨some 1, .box (.t 0), none⟩, ⟨some 2, .mv (.c (.bool false)), none⟩])
  (.seq (.seq (.ops false [⟨some 3, .faddr 0 (.t 1), none⟩, ⟨some 4, .load none (.t 3), none⟩])
  (.block 0 (.seq (.ops false [⟨some 6, .bin .eql (.t 4) (.c (.int .i64 1)), none⟩, ⟨some 5, .mv (.t 6), none⟩])
   (.cond (.t 5) (.seq (.ops false [⟨some 7, .faddr 1 (.t 1), none⟩, ⟨some 8, .load none (.t 7), none⟩, ⟨some 9, .callP 49 [(.t 8), (.c (.int .i64 1)), (.c (.int .i64 1000))], none⟩, ⟨some 2, .mv (.t 9), none⟩])
    (.ret))
    (.seq (.ops false [⟨some 11, .bin .eql (.t 4) (.c (.int .i64 4)), none⟩, ⟨some 10, .mv (.t 11), none⟩])
    (.cond (.t 10) (.seq (.ops false [⟨some 12, .faddr 1 (.t 1), none⟩, ⟨some 13, .load none (.t 12), none⟩, ⟨some 14, .bin .eql (.t 13) (.c (.int .i64 1)), none⟩, ⟨some 15, .mv (.t 14), none⟩, ⟨some 16, .faddr 1 (.t 1), some (15, false)⟩, ⟨some 17, .load none (.t 16), some (15, false)⟩, ⟨some 18, .bin .eql (.t 17) (.c (.int .i64 2)), some (15, false)⟩, ⟨some 19, .pick (.t 15) (.c (.bool true)) (.t 18), none⟩, ⟨some 2, .mv (.t 19), none⟩])
     (.ret))
     (.seq (.ops false [⟨some 21, .bin .eql (.t 4) (.c (.int .i64 5)), none⟩, ⟨some 20, .mv (.t 21), none⟩])
     (.cond (.t 20) (.seq (.ops false [⟨some 22, .faddr 1 (.t 1), none⟩, ⟨some 23, .load none (.t 22), none⟩, ⟨some 24, .callP 49 [(.t 23), (.c (.int .i64 3)), (.c (.int .i64 16))], none⟩, ⟨some 2, .mv (.t 24), none⟩])
      (.ret))
      (.seq (.ops false [⟨some 26, .bin .eql (.t 4) (.c (.int .i64 10)), none⟩, ⟨some 25, .mv (.t 26), none⟩])
      (.cond (.t 25) (.seq (.ops false [⟨some 27, .faddr 1 (.t 1), none⟩, ⟨some 28, .load none (.t 27), none⟩, ⟨some 29, .bin .eql (.t 28) (.c (.int .i64 0)), none⟩, ⟨some 2, .mv (.t 29), none⟩])
       (.ret))
       (.skip)))))))))))
  (.seq (.ops false [⟨some 30, .faddr 1 (.t 1), none⟩, ⟨some 31, .load none (.t 30), none⟩, ⟨some 32, .callP 49 [(.t 31), (.c (.int .i64 0)), (.c (.int .i64 65535))], none⟩, ⟨some 2, .mv (.t 32), none⟩])
  (.ret))),
  [.t 2]⟩

/- noria/instr.within -/
def d_instr_within : DFun := ⟨
  .seq (.ops false [⟨some 6, .mv (.c (.bool false)), none⟩])
  (.seq (.ops false [⟨some 7, .mv (.t 0), none⟩, ⟨some 8, .mv (.t 1), none⟩, ⟨some 9, .bin .geq (.t 7) (.t 8), none⟩, ⟨some 10, .mv (.t 9), none⟩, ⟨some 11, .mv (.t 0), some (10, true)⟩, ⟨some 12, .mv (.t 2), some (10, true)⟩, ⟨some 13, .bin .leq (.t 11) (.t 12), some (10, true)⟩, ⟨some 14, .pick (.t 10) (.t 13) (.c (.bool false)), none⟩, ⟨some 6, .mv (.t 14), none⟩])
  (.ret)),
  [.t 6]⟩

/- (*noria/vm.machine).there -/
def d_vm_machine_there : DFun := ⟨
  .seq (.ops false [⟨some 6, .mv (.c (.bool false)), none⟩])
  (.seq (.ops false [⟨some 7, .mv (.t 1), none⟩, ⟨some 8, .mv (.t 0), none⟩, ⟨some 9, .nilck (.t 8), none⟩, ⟨some 10, .faddr 0 (.t 9), none⟩, ⟨some 11, .load none (.t 10), none⟩, ⟨some 12, .len (.t 11), none⟩, ⟨some 13, .mv (.t 2), none⟩, ⟨some 14, .bin .sub (.t 12) (.t 13), none⟩, ⟨some 15, .bin .leq (.t 7) (.t 14), none⟩, ⟨some 6, .mv (.t 15), none⟩])
  (.ret)),
  [.t 6]⟩

/- noria/arith.Un -/
def d_arith_Un : DFun := ⟨
  .seq (.ops false [⟨some 4, .mv (.c (.int .i64 0)), none⟩, ⟨some 5, .mv (.c (.int .i64 0)), none⟩])
  (.seq (.seq (.ops false [⟨some 6, .mv (.t 0), none⟩])
  (.block 0 (.seq (.ops false [⟨some 8, .bin .eql (.t 6) (.c (.int .i64 1)), none⟩, ⟨some 7, .mv (.t 8), none⟩])
   (.cond (.t 7) (.seq (.ops false [⟨some 9, .mv (.t 1), none⟩, ⟨some 10, .un .neg (.t 9), none⟩, ⟨some 4, .mv (.t 10), none⟩, ⟨some 5, .mv (.c (.int .i64 0)), none⟩])
    (.ret))
    (.seq (.ops false [⟨some 12, .bin .eql (.t 6) (.c (.int .i64 2)), none⟩, ⟨some 11, .mv (.t 12), none⟩])
    (.cond (.t 11) (.seq (.ops false [⟨some 13, .mv (.t 1), none⟩, ⟨some 14, .bin .eql (.t 13) (.c (.int .i64 0)), none⟩, ⟨some 15, .callP 54 [(.t 14)], none⟩, ⟨some 4, .mv (.t 15), none⟩, ⟨some 5, .mv (.c (.int .i64 0)), none⟩])
     (.ret))
     (.skip)))))))
  (.seq (.ops false [⟨some 4, .mv (.c (.int .i64 0)), none⟩, ⟨some 5, .mv (.c (.int .i64 1)), none⟩])
  (.ret))),
  [.t 4, .t 5]⟩

/- noria/arith.Bin -/
def d_arith_Bin : DFun := ⟨
  .seq (.ops false [⟨some 6, .mv (.c (.int .i64 0)), none⟩, ⟨some 7, .mv (.c (.int .i64 0)), none⟩])
  (.seq (.seq (.ops false [⟨some 8, .mv (.t 0), none⟩, ⟨some 9, .callP 55 [(.t 8)], none⟩])
  (.block 0 (.seq (.ops false [⟨some 11, .bin .eql (.t 9) (.c (.int .i64 0)), none⟩, ⟨some 10, .mv (.t 11), none⟩])
   (.cond (.t 10) (.seq (.ops false [⟨some 6, .mv (.c (.int .i64 0)), none⟩, ⟨some 7, .mv (.c (.int .i64 1)), none⟩])
    (.ret))
    (.seq (.ops false [⟨some 13, .bin .eql (.t 9) (.c (.int .i64 1)), none⟩, ⟨some 12, .mv (.t 13), none⟩])
    (.cond (.t 12) (.seq (.ops false [⟨some 14, .mv (.t 0), none⟩, ⟨some 15, .mv (.t 1), none⟩, ⟨some 16, .mv (.t 2), none⟩, ⟨some 17, .callP 56 [(.t 14), (.t 15), (.t 16)], none⟩, ⟨some 18, .extract 0 (.t 17), none⟩, ⟨some 19, .extract 1 (.t 17), none⟩, ⟨some 6, .mv (.t 18), none⟩, ⟨some 7, .mv (.t 19), none⟩])
     (.ret))
     (.skip)))))))
  (.seq (.ops false [⟨some 20, .mv (.t 0), none⟩, ⟨some 21, .mv (.t 1), none⟩, ⟨some 22, .mv (.t 2), none⟩, ⟨some 23, .callP 57 [(.t 20), (.t 21), (.t 22)], none⟩, ⟨some 24, .callP 54 [(.t 23)], none⟩, ⟨some 6, .mv (.t 24), none⟩, ⟨some 7, .mv (.c (.int .i64 0)), none⟩])
  (.ret))),
  [.t 6, .t 7]⟩

/- noria/noriaref07.size -/
def d_noriaref07_size : DFun := ⟨
  .seq (.ops false [⟨some 2, .mv (.c (.int .u64 0)), none⟩])
  (.seq (.seq (.ops false [⟨some 3, .mv (.t 0), none⟩, ⟨some 4, .bin .lss (.t 3) (.c (.int .i64 0)), none⟩])
  (.cond (.t 4) (.seq (.ops false [⟨some 5, .mv (.t 0), none⟩, ⟨some 6, .conv .u64 (.t 5), none⟩, ⟨some 7, .bin .sub (.c (.int .u64 0)) (.t 6), none⟩, ⟨some 2, .mv (.t 7), none⟩])
   (.ret))
   (.skip)))
  (.seq (.ops false [⟨some 8, .mv (.t 0), none⟩, ⟨some 9, .conv .u64 (.t 8), none⟩, ⟨some 2, .mv (.t 9), none⟩])
  (.ret))),
  [.t 2]⟩

/- noria/arith.truth -/
def d_arith_truth : DFun := ⟨
  .seq (.ops false [⟨some 2, .mv (.c (.int .i64 0)), none⟩])
  (.seq (.seq (.ops false [⟨some 3, .mv (.t 0), none⟩])
  (.cond (.t 3) (.seq (.ops false [⟨some 2, .mv (.c (.int .i64 1)), none⟩])
   (.ret))
   (.skip)))
  (.seq (.ops false [⟨some 2, .mv (.c (.int .i64 0)), none⟩])
  (.ret))),
  [.t 2]⟩

/- noria/arith.group -/
def d_arith_group : DFun := ⟨
  .seq (.ops false [⟨some 2, .mv (.c (.int .i64 0)), none⟩])
  (.seq (.ops false [⟨some 3, .mv (.c (.int .i64 0)), none⟩])
  (.seq (.seq (.ops false [⟨some 4, .mv (.t 0), none⟩])
  (.block 0 (.seq (.block 6 (.block 5 (.seq (.block 4 (.seq (.block 3 (.seq (.block 2 (.block 1 (.seq (.seq (.seq (.seq (.ops false [⟨some 6, .bin .eql (.t 4) (.c (.int .i64 3)), none⟩, ⟨some 5, .mv (.t 6), none⟩])
         (.cond (.t 5) (.skip)
          (.seq (.ops false [⟨some 7, .bin .eql (.t 4) (.c (.int .i64 4)), none⟩, ⟨some 5, .mv (.t 7), none⟩])
          (.cond (.t 5) (.skip)
           (.ops false [⟨some 8, .bin .eql (.t 4) (.c (.int .i64 5)), none⟩, ⟨some 5, .mv (.t 8), none⟩])))))
         (.cond (.t 5) (.exit 1)
          (.skip)))
         (.seq (.seq (.seq (.ops false [⟨some 10, .bin .eql (.t 4) (.c (.int .i64 6)), none⟩, ⟨some 9, .mv (.t 10), none⟩])
         (.cond (.t 9) (.skip)
          (.ops false [⟨some 11, .bin .eql (.t 4) (.c (.int .i64 7)), none⟩, ⟨some 9, .mv (.t 11), none⟩])))
         (.cond (.t 9) (.exit 2)
          (.skip)))
         (.seq (.seq (.seq (.ops false [⟨some 13, .bin .eql (.t 4) (.c (.int .i64 8)), none⟩, ⟨some 12, .mv (.t 13), none⟩])
         (.cond (.t 12) (.skip)
          (.seq (.ops false [⟨some 14, .bin .eql (.t 4) (.c (.int .i64 9)), none⟩, ⟨some 12, .mv (.t 14), none⟩])
          (.cond (.t 12) (.skip)
           (.ops false [⟨some 15, .bin .eql (.t 4) (.c (.int .i64 10)), none⟩, ⟨some 12, .mv (.t 15), none⟩])))))
         (.cond (.t 12) (.exit 3)
          (.skip)))
         (.seq (.seq (.seq (.ops false [⟨some 17, .bin .eql (.t 4) (.c (.int .i64 11)), none⟩, ⟨some 16, .mv (.t 17), none⟩])
         (.cond (.t 16) (.skip)
          (.ops false [⟨some 18, .bin .eql (.t 4) (.c (.int .i64 12)), none⟩, ⟨some 16, .mv (.t 18), none⟩])))
         (.cond (.t 16) (.exit 4)
          (.skip)))
         (.seq (.seq (.seq (.ops false [⟨some 20, .bin .eql (.t 4) (.c (.int .i64 13)), none⟩, ⟨some 19, .mv (.t 20), none⟩])
         (.cond (.t 19) (.skip)
          (.ops false [⟨some 21, .bin .eql (.t 4) (.c (.int .i64 14)), none⟩, ⟨some 19, .mv (.t 21), none⟩])))
         (.cond (.t 19) (.exit 5)
          (.skip)))
         (.seq (.seq (.ops false [⟨some 23, .bin .eql (.t 4) (.c (.int .i64 15)), none⟩, ⟨some 22, .mv (.t 23), none⟩])
         (.cond (.t 22) (.skip)
          (.ops false [⟨some 24, .bin .eql (.t 4) (.c (.int .i64 16)), none⟩, ⟨some 22, .mv (.t 24), none⟩])))
         (.cond (.t 22) (.exit 6)
          (.skip))))))))
         (.exit 0))))
       (.seq (.ops false [⟨some 3, .mv (.c (.int .i64 1)), none⟩])
       (.exit 0))))
      (.seq (.ops false [⟨some 3, .mv (.c (.int .i64 2)), none⟩])
      (.exit 0))))
     (.seq (.ops false [⟨some 3, .mv (.c (.int .i64 4)), none⟩])
     (.exit 0)))))
   (.seq (.ops false [⟨some 3, .mv (.c (.int .i64 3)), none⟩])
   (.exit 0)))))
  (.seq (.ops false [⟨some 25, .mv (.t 3), none⟩, ⟨some 2, .mv (.t 25), none⟩])
  (.ret)))),
  [.t 2]⟩

/- noria/arith.number -/
def d_arith_number : DFun := ⟨
  .seq (.ops false [⟨some 6, .mv (.c (.int .i64 0)), none⟩, ⟨some 7, .mv (.c (.int .i64 0)), none⟩])
  (.seq (.seq (.ops false [⟨some 10, .mv (.t 0), none⟩])
  (.block 0 (.seq (.ops false [⟨some 12, .bin .eql (.t 10) (.c (.int .i64 3)), none⟩, ⟨some 11, .mv (.t 12), none⟩])
   (.cond (.t 11) (.seq (.ops false [⟨some 13, .mv (.t 1), none⟩, ⟨some 14, .mv (.t 2), none⟩, ⟨some 15, .bin .add (.t 13) (.t 14), none⟩, ⟨some 6, .mv (.t 15), none⟩, ⟨some 7, .mv (.c (.int .i64 0)), none⟩])
    (.ret))
    (.seq (.ops false [⟨some 17, .bin .eql (.t 10) (.c (.int .i64 4)), none⟩, ⟨some 16, .mv (.t 17), none⟩])
    (.cond (.t 16) (.seq (.ops false [⟨some 18, .mv (.t 1), none⟩, ⟨some 19, .mv (.t 2), none⟩, ⟨some 20, .bin .sub (.t 18) (.t 19), none⟩, ⟨some 6, .mv (.t 20), none⟩, ⟨some 7, .mv (.c (.int .i64 0)), none⟩])
     (.ret))
     (.seq (.ops false [⟨some 22, .bin .eql (.t 10) (.c (.int .i64 5)), none⟩, ⟨some 21, .mv (.t 22), none⟩])
     (.cond (.t 21) (.seq (.ops false [⟨some 23, .mv (.t 1), none⟩, ⟨some 24, .mv (.t 2), none⟩, ⟨some 25, .bin .mul (.t 23) (.t 24), none⟩, ⟨some 6, .mv (.t 25), none⟩, ⟨some 7, .mv (.c (.int .i64 0)), none⟩])
      (.ret))
      (.skip)))))))))
  (.seq (.seq (.ops false [⟨some 26, .mv (.t 2), none⟩, ⟨some 27, .bin .eql (.t 26) (.c (.int .i64 0)), none⟩])
  (.cond (.t 27) (.seq (.ops false [⟨some 6, .mv (.c (.int .i64 0)), none⟩, ⟨some 7, .mv (.c (.int .i64 15)), none⟩])
   (.ret))
   (.skip)))
  (.seq (.ops false [⟨some 29, .mv (.t 1), none⟩, ⟨some 30, .mv (.t 2), none⟩, ⟨some 31, .callP 58 [(.t 29), (.t 30)], none⟩, ⟨some 28, .mv (.t 31), none⟩, ⟨some 32, .extract 0 (.t 28), none⟩, ⟨some 33, .extract 1 (.t 28), none⟩, ⟨some 8, .mv (.t 32), none⟩, ⟨some 9, .mv (.t 33), none⟩])
  (.seq (.seq (.ops false [⟨some 34, .mv (.t 0), none⟩, ⟨some 35, .bin .eql (.t 34) (.c (.int .i64 6)), none⟩])
  (.cond (.t 35) (.seq (.ops false [⟨some 36, .mv (.t 8), none⟩, ⟨some 6, .mv (.t 36), none⟩, ⟨some 7, .mv (.c (.int .i64 0)), none⟩])
   (.ret))
   (.skip)))
  (.seq (.ops false [⟨some 37, .mv (.t 9), none⟩, ⟨some 6, .mv (.t 37), none⟩, ⟨some 7, .mv (.c (.int .i64 0)), none⟩])
  (.ret)))))),
  [.t 6, .t 7]⟩

/- noria/arith.holds -/
def d_arith_holds : DFun := ⟨
  .seq (.ops false [⟨some 6, .mv (.c (.bool false)), none⟩])
  (.seq (.seq (.ops false [⟨some 7, .mv (.t 0), none⟩])
  (.block 0 (.seq (.ops false [⟨some 9, .bin .eql (.t 7) (.c (.int .i64 8)), none⟩, ⟨some 8, .mv (.t 9), none⟩])
   (.cond (.t 8) (.seq (.ops false [⟨some 10, .mv (.t 1), none⟩, ⟨some 11, .bin .neq (.t 10) (.c (.int .i64 0)), none⟩, ⟨some 12, .mv (.t 11), none⟩, ⟨some 13, .mv (.t 2), some (12, true)⟩, ⟨some 14, .bin .neq (.t 13) (.c (.int .i64 0)), some (12, true)⟩, ⟨some 15, .pick (.t 12) (.t 14) (.c (.bool false)), none⟩, ⟨some 6, .mv (.t 15), none⟩])
    (.ret))
    (.seq (.ops false [⟨some 17, .bin .eql (.t 7) (.c (.int .i64 9)), none⟩, ⟨some 16, .mv (.t 17), none⟩])
    (.cond (.t 16) (.seq (.ops false [⟨some 18, .mv (.t 1), none⟩, ⟨some 19, .bin .neq (.t 18) (.c (.int .i64 0)), none⟩, ⟨some 20, .mv (.t 19), none⟩, ⟨some 21, .mv (.t 2), some (20, false)⟩, ⟨some 22, .bin .neq (.t 21) (.c (.int .i64 0)), some (20, false)⟩, ⟨some 23, .pick (.t 20) (.c (.bool true)) (.t 22), none⟩, ⟨some 6, .mv (.t 23), none⟩])
     (.ret))
     (.seq (.ops false [⟨some 25, .bin .eql (.t 7) (.c (.int .i64 10)), none⟩, ⟨some 24, .mv (.t 25), none⟩])
     (.cond (.t 24) (.seq (.ops false [⟨some 26, .mv (.t 1), none⟩, ⟨some 27, .bin .neq (.t 26) (.c (.int .i64 0)), none⟩, ⟨some 28, .mv (.t 2), none⟩, ⟨some 29, .bin .neq (.t 28) (.c (.int .i64 0)), none⟩, ⟨some 30, .beq true (.t 27) (.t 29), none⟩, ⟨some 6, .mv (.t 30), none⟩])
      (.ret))
      (.seq (.ops false [⟨some 32, .bin .eql (.t 7) (.c (.int .i64 11)), none⟩, ⟨some 31, .mv (.t 32), none⟩])
      (.cond (.t 31) (.seq (.ops false [⟨some 33, .mv (.t 1), none⟩, ⟨some 34, .mv (.t 2), none⟩, ⟨some 35, .bin .eql (.t 33) (.t 34), none⟩, ⟨some 6, .mv (.t 35), none⟩])
       (.ret))
       (.seq (.ops false [⟨some 37, .bin .eql (.t 7) (.c (.int .i64 12)), none⟩, ⟨some 36, .mv (.t 37), none⟩])
       (.cond (.t 36) (.seq (.ops false [⟨some 38, .mv (.t 1), none⟩, ⟨some 39, .mv (.t 2), none⟩, ⟨some 40, .bin .neq (.t 38) (.t 39), none⟩, ⟨some 6, .mv (.t 40), none⟩])
        (.ret))
        (.seq (.ops false [⟨some 42, .bin .eql (.t 7) (.c (.int .i64 13)), none⟩, ⟨some 41, .mv (.t 42), none⟩])
        (.cond (.t 41) (.seq (.ops false [⟨some 43, .mv (.t 1), none⟩, ⟨some 44, .mv (.t 2), none⟩, ⟨some 45, .bin .lss (.t 43) (.t 44), none⟩, ⟨some 6, .mv (.t 45), none⟩])
         (.ret))
         (.seq (.ops false [⟨some 47, .bin .eql (.t 7) (.c (.int .i64 14)), none⟩, ⟨some 46, .mv (.t 47), none⟩])
         (.cond (.t 46) (.seq (.ops false [⟨some 48, .mv (.t 1), none⟩, ⟨some 49, .mv (.t 2), none⟩, ⟨some 50, .bin .leq (.t 48) (.t 49), none⟩, ⟨some 6, .mv (.t 50), none⟩])
          (.ret))
          (.seq (.ops false [⟨some 52, .bin .eql (.t 7) (.c (.int .i64 15)), none⟩, ⟨some 51, .mv (.t 52), none⟩])
          (.cond (.t 51) (.seq (.ops false [⟨some 53, .mv (.t 1), none⟩, ⟨some 54, .mv (.t 2), none⟩, ⟨some 55, .bin .gtr (.t 53) (.t 54), none⟩, ⟨some 6, .mv (.t 55), none⟩])
           (.ret))
           (.skip)))))))))))))))))))
  (.seq (.ops false [⟨some 56, .mv (.t 1), none⟩, ⟨some 57, .mv (.t 2), none⟩, ⟨some 58, .bin .geq (.t 56) (.t 57), none⟩, ⟨some 6, .mv (.t 58), none⟩])
  (.ret))),
  [.t 6]⟩

/- noria/arith.divided -/
def d_arith_divided : DFun := ⟨
  .seq (.ops false [⟨some 4, .mv (.c (.int .i64 0)), none⟩, ⟨some 5, .mv (.c (.int .i64 0)), none⟩])
  (.seq (.seq (.ops false [⟨some 6, .mv (.t 1), none⟩, ⟨some 7, .bin .eql (.t 6) (.c (.int .i64 (-1))), none⟩])
  (.cond (.t 7) (.seq (.ops false [⟨some 8, .mv (.t 0), none⟩, ⟨some 9, .un .neg (.t 8), none⟩, ⟨some 4, .mv (.t 9), none⟩, ⟨some 5, .mv (.c (.int .i64 0)), none⟩])
   (.ret))
   (.skip)))
  (.seq (.ops true [⟨some 10, .mv (.t 0), none⟩, ⟨some 11, .mv (.t 1), none⟩, ⟨some 12, .bin .quo (.t 10) (.t 11), none⟩, ⟨some 13, .mv (.t 0), none⟩, ⟨some 14, .mv (.t 1), none⟩, ⟨some 15, .bin .rem (.t 13) (.t 14), none⟩, ⟨some 4, .mv (.t 12), none⟩, ⟨some 5, .mv (.t 15), none⟩])
  (.ret))),
  [.t 4, .t 5]⟩

end Go.Proofs.Ytjgefhgkinocmaa
