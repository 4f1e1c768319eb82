/- The data-level reading of the functions. -/
import Derived.Test.YtnbmpdhgejppaaaDoorNkZ
set_option linter.all false
namespace Go.Proofs.YtnbmpdhgejppaaaDoor
open Go.Nk

/- noria/norialaw28.InstrPuts -/
def d_norialaw28_InstrPuts : DFun := ⟨
  .seq (.ops false [⟨some 2, .mv (.c (.bool false)), none⟩])
  (.seq (.seq (.ops false [⟨some 8, .mv (.t 0), none⟩, ⟨some 9, .len (.t 8), none⟩, ⟨some 10, .bin .gtr (.t 9) (.c (.int .i64 300)), none⟩])
  (.cond (.t 10) (.seq (.ops false [⟨some 11, .callP 7 [], none⟩, ⟨some 2, .mv (.t 11), none⟩])
   (.ret))
   (.skip)))
  (.seq (.seq (.ops false [⟨some 3, .mv (.c (.int .i64 0)), none⟩])
  (.block 0 (.loop [0, 3] (some 0) (.seq (.seq (.ops false [⟨some 12, .mv (.t 3), none⟩, ⟨some 13, .mv (.t 0), none⟩, ⟨some 14, .len (.t 13), none⟩, ⟨some 15, .bin .lss (.t 12) (.t 14), none⟩])
    (.cond (.t 15) (.skip)
     (.exit 0)))
    (.seq (.block 1 (.seq (.opsP [(0, ⟨some 18, .mv (.t 0), none⟩), (1, ⟨some 19, .mv (.t 3), none⟩), (2, ⟨some 20, .iaddr 4 (.t 18) (.t 19), none⟩), (3, ⟨some 21, .load (some 4) (.t 20), none⟩), (5, ⟨some 23, .mv (.t 0), none⟩), (6, ⟨some 24, .mv (.t 3), none⟩), (7, ⟨some 25, .iaddr 4 (.t 23) (.t 24), none⟩), (8, ⟨some 26, .load (some 4) (.t 25), none⟩), (4, ⟨some 22, .callP 8 [(.t 21)], none⟩), (9, ⟨some 27, .callP 9 [(.t 26)], none⟩), (10, ⟨some 28, .beq true (.t 22) (.t 27), none⟩), (11, ⟨some 29, .mv (.t 28), none⟩), (12, ⟨some 30, .mv (.t 0), some (29, false)⟩), (13, ⟨some 31, .mv (.t 3), some (29, false)⟩), (14, ⟨some 32, .iaddr 4 (.t 30) (.t 31), some (29, false)⟩), (15, ⟨some 33, .load (some 4) (.t 32), some (29, false)⟩), (17, ⟨some 35, .mv (.t 0), some (29, false)⟩), (18, ⟨some 36, .mv (.t 3), some (29, false)⟩), (19, ⟨some 37, .iaddr 4 (.t 35) (.t 36), some (29, false)⟩), (20, ⟨some 38, .load (some 4) (.t 37), some (29, false)⟩), (16, ⟨some 34, .callP 10 [(.t 33)], some (29, false)⟩), (21, ⟨some 39, .callP 11 [(.t 38)], some (29, false)⟩), (22, ⟨some 40, .bin .neq (.t 34) (.t 39), some (29, false)⟩), (23, ⟨some 41, .pick (.t 29) (.c (.bool true)) (.t 40), none⟩)])
     (.cond (.t 41) (.seq (.ops false [⟨some 2, .mv (.c (.bool false)), none⟩])
      (.ret))
      (.skip))))
    (.ops false [⟨some 16, .mv (.t 3), none⟩, ⟨some 17, .bin .add (.t 16) (.c (.int .i64 1)), none⟩, ⟨some 3, .mv (.t 17), none⟩]))))))
  (.seq (.ops false [⟨some 43, .mv (.t 0), none⟩, ⟨some 44, .callP 12 [(.t 43)], none⟩, ⟨some 42, .mv (.t 44), none⟩, ⟨some 45, .extract 0 (.t 42), none⟩, ⟨some 46, .extract 1 (.t 42), none⟩, ⟨some 4, .mv (.t 45), none⟩, ⟨some 5, .mv (.t 46), none⟩])
  (.seq (.ops false [⟨some 48, .mv (.t 0), none⟩, ⟨some 49, .callP 13 [(.t 48)], none⟩, ⟨some 47, .mv (.t 49), none⟩, ⟨some 50, .extract 0 (.t 47), none⟩, ⟨some 51, .extract 1 (.t 47), none⟩, ⟨some 6, .mv (.t 50), none⟩, ⟨some 7, .mv (.t 51), none⟩])
  (.seq (.ops false [⟨some 52, .mv (.t 4), none⟩, ⟨some 53, .mv (.t 6), none⟩, ⟨some 54, .callP 14 [(.t 52), (.t 53)], none⟩, ⟨some 55, .mv (.t 54), none⟩, ⟨some 56, .mv (.t 5), some (55, true)⟩, ⟨some 57, .mv (.t 7), some (55, true)⟩, ⟨some 58, .beq false (.t 56) (.t 57), some (55, true)⟩, ⟨some 59, .pick (.t 55) (.t 58) (.c (.bool false)), none⟩, ⟨some 60, .mv (.t 59), none⟩, ⟨some 61, .callP 7 [], some (60, true)⟩, ⟨some 62, .pick (.t 60) (.t 61) (.c (.bool false)), none⟩, ⟨some 2, .mv (.t 62), none⟩])
  (.ret)))))),
  [.t 2]⟩

/- noria/norialaw28.InstrApart -/
def d_norialaw28_InstrApart : DFun := ⟨
  .seq (.ops false [⟨some 2, .box (.t 0), none⟩, ⟨some 3, .box (.t 1), none⟩, ⟨some 4, .mv (.c (.bool false)), none⟩])
  (.seq (.seq (.ops false [⟨some 5, .load (some 4) (.t 2), none⟩, ⟨some 6, .callP 8 [(.t 5)], none⟩, ⟨some 7, .un .not (.t 6), none⟩, ⟨some 8, .mv (.t 7), none⟩, ⟨some 9, .load (some 4) (.t 3), some (8, false)⟩, ⟨some 10, .callP 8 [(.t 9)], some (8, false)⟩, ⟨some 11, .un .not (.t 10), some (8, false)⟩, ⟨some 12, .pick (.t 8) (.c (.bool true)) (.t 11), none⟩])
  (.cond (.t 12) (.seq (.ops false [⟨some 13, .callP 7 [], none⟩, ⟨some 4, .mv (.t 13), none⟩])
   (.ret))
   (.skip)))
  (.seq (.opsP [(0, ⟨some 14, .load (some 4) (.t 2), none⟩), (2, ⟨some 16, .load (some 4) (.t 3), none⟩), (5, ⟨some 19, .load (some 4) (.t 2), none⟩), (6, ⟨some 20, .load (some 4) (.t 3), none⟩), (7, ⟨some 21, .aeq false [0, 0, 0, 0] (.t 19) (.t 20), none⟩), (1, ⟨some 15, .callP 10 [(.t 14)], none⟩), (3, ⟨some 17, .callP 10 [(.t 16)], none⟩), (4, ⟨some 18, .bin .eql (.t 15) (.t 17), none⟩), (8, ⟨some 22, .beq false (.t 18) (.t 21), none⟩), (9, ⟨some 23, .mv (.t 22), none⟩), (10, ⟨some 24, .callP 7 [], some (23, true)⟩), (11, ⟨some 25, .pick (.t 23) (.t 24) (.c (.bool false)), none⟩), (12, ⟨some 4, .mv (.t 25), none⟩)])
  (.ret))),
  [.t 4]⟩

/- noria/norialaw28.InstrGets -/
def d_norialaw28_InstrGets : DFun := ⟨
  .seq (.ops false [⟨some 2, .mv (.c (.bool false)), none⟩])
  (.seq (.seq (.ops false [⟨some 7, .mv (.t 0), none⟩, ⟨some 8, .len (.t 7), none⟩, ⟨some 9, .bin .gtr (.t 8) (.c (.int .i64 2000)), none⟩])
  (.cond (.t 9) (.seq (.ops false [⟨some 10, .callP 7 [], none⟩, ⟨some 2, .mv (.t 10), none⟩])
   (.ret))
   (.skip)))
  (.seq (.ops false [⟨some 12, .mv (.t 0), none⟩, ⟨some 13, .callP 15 [(.t 12)], none⟩, ⟨some 11, .mv (.t 13), none⟩, ⟨some 14, .extract 0 (.t 11), none⟩, ⟨some 15, .extract 1 (.t 11), none⟩, ⟨some 3, .mv (.t 14), none⟩, ⟨some 4, .mv (.t 15), none⟩])
  (.seq (.ops false [⟨some 17, .mv (.t 0), none⟩, ⟨some 18, .callP 16 [(.t 17)], none⟩, ⟨some 16, .mv (.t 18), none⟩, ⟨some 19, .extract 0 (.t 16), none⟩, ⟨some 20, .extract 1 (.t 16), none⟩, ⟨some 5, .mv (.t 19), none⟩, ⟨some 6, .mv (.t 20), none⟩])
  (.seq (.ops false [⟨some 21, .mv (.t 3), none⟩, ⟨some 22, .mv (.t 5), none⟩, ⟨some 23, .callP 17 [(.t 21), (.t 22)], none⟩, ⟨some 24, .mv (.t 23), none⟩, ⟨some 25, .mv (.t 4), some (24, true)⟩, ⟨some 26, .mv (.t 6), some (24, true)⟩, ⟨some 27, .beq false (.t 25) (.t 26), some (24, true)⟩, ⟨some 28, .pick (.t 24) (.t 27) (.c (.bool false)), none⟩, ⟨some 29, .mv (.t 28), none⟩, ⟨some 30, .callP 7 [], some (29, true)⟩, ⟨some 31, .pick (.t 29) (.t 30) (.c (.bool false)), none⟩, ⟨some 2, .mv (.t 31), none⟩])
  (.ret))))),
  [.t 2]⟩

/- noria/norialaw28.InstrBack -/
def d_norialaw28_InstrBack : DFun := ⟨
  .seq (.ops false [⟨some 4, .mv (.c (.bool false)), none⟩])
  (.seq (.seq (.ops false [⟨some 13, .mv (.t 0), none⟩, ⟨some 14, .len (.t 13), none⟩, ⟨some 15, .bin .gtr (.t 14) (.c (.int .i64 300)), none⟩, ⟨some 16, .mv (.t 15), none⟩, ⟨some 17, .mv (.t 1), some (16, false)⟩, ⟨some 18, .len (.t 17), some (16, false)⟩, ⟨some 19, .bin .gtr (.t 18) (.c (.int .i64 2000)), some (16, false)⟩, ⟨some 20, .pick (.t 16) (.c (.bool true)) (.t 19), none⟩])
  (.cond (.t 20) (.seq (.ops false [⟨some 21, .callP 7 [], none⟩, ⟨some 4, .mv (.t 21), none⟩])
   (.ret))
   (.skip)))
  (.seq (.ops false [⟨some 23, .mv (.t 0), none⟩, ⟨some 24, .callP 12 [(.t 23)], none⟩, ⟨some 22, .mv (.t 24), none⟩, ⟨some 25, .extract 0 (.t 22), none⟩, ⟨some 26, .extract 1 (.t 22), none⟩, ⟨some 5, .mv (.t 25), none⟩, ⟨some 6, .mv (.t 26), none⟩])
  (.seq (.seq (.ops false [⟨some 27, .mv (.t 6), none⟩])
  (.cond (.t 27) (.seq (.ops false [⟨some 29, .mv (.t 5), none⟩, ⟨some 30, .callP 15 [(.t 29)], none⟩, ⟨some 28, .mv (.t 30), none⟩, ⟨some 31, .extract 0 (.t 28), none⟩, ⟨some 32, .extract 1 (.t 28), none⟩, ⟨some 7, .mv (.t 31), none⟩, ⟨some 8, .mv (.t 32), none⟩])
   (.seq (.ops false [⟨some 33, .mv (.t 8), none⟩, ⟨some 34, .un .not (.t 33), none⟩, ⟨some 35, .mv (.t 34), none⟩, ⟨some 36, .mv (.t 0), some (35, false)⟩, ⟨some 37, .mv (.t 7), some (35, false)⟩, ⟨some 38, .callP 17 [(.t 36), (.t 37)], some (35, false)⟩, ⟨some 39, .un .not (.t 38), some (35, false)⟩, ⟨some 40, .pick (.t 35) (.c (.bool true)) (.t 39), none⟩])
   (.cond (.t 40) (.seq (.ops false [⟨some 4, .mv (.c (.bool false)), none⟩])
    (.ret))
    (.skip))))
   (.skip)))
  (.seq (.ops false [⟨some 42, .mv (.t 1), none⟩, ⟨some 43, .callP 15 [(.t 42)], none⟩, ⟨some 41, .mv (.t 43), none⟩, ⟨some 44, .extract 0 (.t 41), none⟩, ⟨some 45, .extract 1 (.t 41), none⟩, ⟨some 9, .mv (.t 44), none⟩, ⟨some 10, .mv (.t 45), none⟩])
  (.seq (.seq (.ops false [⟨some 46, .mv (.t 10), none⟩, ⟨some 47, .un .not (.t 46), none⟩])
  (.cond (.t 47) (.seq (.ops false [⟨some 48, .mv (.t 9), none⟩, ⟨some 49, .len (.t 48), none⟩, ⟨some 50, .bin .eql (.t 49) (.c (.int .i64 0)), none⟩, ⟨some 51, .mv (.t 50), none⟩, ⟨some 52, .callP 7 [], some (51, true)⟩, ⟨some 53, .pick (.t 51) (.t 52) (.c (.bool false)), none⟩, ⟨some 4, .mv (.t 53), none⟩])
   (.ret))
   (.skip)))
  (.seq (.ops false [⟨some 55, .mv (.t 9), none⟩, ⟨some 56, .callP 12 [(.t 55)], none⟩, ⟨some 54, .mv (.t 56), none⟩, ⟨some 57, .extract 0 (.t 54), none⟩, ⟨some 58, .extract 1 (.t 54), none⟩, ⟨some 11, .mv (.t 57), none⟩, ⟨some 12, .mv (.t 58), none⟩])
  (.seq (.ops false [⟨some 59, .mv (.t 12), none⟩, ⟨some 60, .mv (.t 59), none⟩, ⟨some 61, .mv (.t 11), some (60, true)⟩, ⟨some 62, .mv (.t 1), some (60, true)⟩, ⟨some 63, .callP 14 [(.t 61), (.t 62)], some (60, true)⟩, ⟨some 64, .pick (.t 60) (.t 63) (.c (.bool false)), none⟩, ⟨some 65, .mv (.t 64), none⟩, ⟨some 66, .callP 7 [], some (65, true)⟩, ⟨some 67, .pick (.t 65) (.t 66) (.c (.bool false)), none⟩, ⟨some 4, .mv (.t 67), none⟩])
  (.ret)))))))),
  [.t 4]⟩

/- noria/norialaw28.live -/
def d_norialaw28_live : DFun := ⟨
  .seq (.ops false [⟨some 0, .mv (.c (.bool false)), none⟩])
  (.seq (.ops false [⟨some 4, .build [.int .i64 0, .int .i64 0, .int .i64 0, .int .i64 0] [(0, 1, (.c (.int .i64 1))), (1, 1, (.c (.int .i64 1))), (3, 1, (.c (.int .i64 (-1))))], none⟩, ⟨some 1, .alloc [.int .i64 0, .int .i64 0, .int .i64 0, .int .i64 0], none⟩, ⟨none, .store 4 (.t 1) (.t 4), none⟩])
  (.seq (.ops false [⟨some 6, .load (some 4) (.t 1), none⟩, ⟨some 7, .bslice true [.int .i64 0, .int .i64 0, .int .i64 0, .int .i64 0] [(some (.t 6))], none⟩, ⟨some 8, .callP 12 [(.t 7)], none⟩, ⟨some 5, .mv (.t 8), none⟩, ⟨some 9, .extract 0 (.t 5), none⟩, ⟨some 10, .extract 1 (.t 5), none⟩, ⟨some 2, .mv (.t 9), none⟩, ⟨some 3, .mv (.t 10), none⟩])
  (.seq (.ops false [⟨some 11, .mv (.t 3), none⟩, ⟨some 12, .mv (.t 11), none⟩, ⟨some 13, .mv (.t 2), some (12, true)⟩, ⟨some 14, .bslice true [.int .u8 0] [(some (.c (.int .u8 1))), (some (.c (.int .u8 0))), (some (.c (.int .u8 1))), (some (.c (.int .u8 1))), (some (.c (.int .u8 255)))], some (12, true)⟩, ⟨some 15, .callP 14 [(.t 13), (.t 14)], some (12, true)⟩, ⟨some 16, .pick (.t 12) (.t 15) (.c (.bool false)), none⟩, ⟨some 17, .mv (.t 16), none⟩, ⟨some 18, .load (some 4) (.t 1), some (17, true)⟩, ⟨some 19, .callP 10 [(.t 18)], some (17, true)⟩, ⟨some 20, .bin .eql (.t 19) (.c (.str [112, 117, 115, 104, 32, 49, 32, 45, 49])), some (17, true)⟩, ⟨some 21, .pick (.t 17) (.t 20) (.c (.bool false)), none⟩, ⟨some 0, .mv (.t 21), none⟩])
  (.ret)))),
  [.t 0]⟩

/- noria/instr.Right -/
def d_instr_Right : DFun := ⟨
  .seq (.ops false [⟨some 1, .box (.t 0), none⟩, ⟨some 2, .mv (.c (.bool false)), none⟩])
  (.seq (.ops false [⟨some 6, .faddr 0 (.t 1), none⟩, ⟨some 7, .load none (.t 6), none⟩, ⟨some 8, .callP 18 [(.t 7)], none⟩, ⟨some 5, .mv (.t 8), none⟩, ⟨some 9, .extract 0 (.t 5), none⟩, ⟨some 10, .extract 1 (.t 5), none⟩, ⟨some 3, .alloc [.str [], .bool false, .bool false, .bool false, .bool false], none⟩, ⟨none, .store 5 (.t 3) (.t 9), none⟩, ⟨some 4, .mv (.t 10), none⟩])
  (.seq (.seq (.ops false [⟨some 11, .mv (.t 4), none⟩, ⟨some 12, .un .not (.t 11), none⟩, ⟨some 13, .mv (.t 12), none⟩, ⟨some 14, .load (some 4) (.t 1), some (13, false)⟩, ⟨some 15, .callP 19 [(.t 14)], some (13, false)⟩, ⟨some 16, .un .not (.t 15), some (13, false)⟩, ⟨some 17, .pick (.t 13) (.c (.bool true)) (.t 16), none⟩, ⟨some 18, .mv (.t 17), none⟩, ⟨some 19, .faddr 4 (.t 3), some (18, false)⟩, ⟨some 20, .load none (.t 19), some (18, false)⟩, ⟨some 21, .un .not (.t 20), some (18, false)⟩, ⟨some 22, .mv (.t 21), some (18, false)⟩, ⟨some 23, .faddr 3 (.t 1), some (22, true)⟩, ⟨some 24, .load none (.t 23), some (22, true)⟩, ⟨some 25, .bin .neq (.t 24) (.c (.int .i64 0)), some (22, true)⟩, ⟨some 26, .pick (.t 22) (.t 25) (.c (.bool false)), some (18, false)⟩, ⟨some 27, .pick (.t 18) (.c (.bool true)) (.t 26), none⟩])
  (.cond (.t 27) (.seq (.ops false [⟨some 2, .mv (.c (.bool false)), none⟩])
   (.ret))
   (.skip)))
  (.seq (.seq (.ops false [⟨some 28, .faddr 3 (.t 3), none⟩, ⟨some 29, .load none (.t 28), none⟩])
  (.cond (.t 29) (.seq (.ops false [⟨some 30, .faddr 2 (.t 1), none⟩, ⟨some 31, .load none (.t 30), none⟩, ⟨some 32, .callP 20 [(.t 31), (.c (.int .i64 1)), (.c (.int .i64 8))], none⟩, ⟨some 2, .mv (.t 32), none⟩])
   (.ret))
   (.skip)))
  (.seq (.ops false [⟨some 33, .faddr 2 (.t 1), none⟩, ⟨some 34, .load none (.t 33), none⟩, ⟨some 35, .bin .eql (.t 34) (.c (.int .i64 0)), none⟩, ⟨some 2, .mv (.t 35), none⟩])
  (.ret))))),
  [.t 2]⟩

/- noria/noriaref28.Right -/
def d_noriaref28_Right : DFun := ⟨
  .seq (.ops false [⟨some 1, .box (.t 0), none⟩, ⟨some 2, .mv (.c (.bool false)), none⟩])
  (.seq (.seq (.ops false [⟨some 3, .faddr 0 (.t 1), none⟩, ⟨some 4, .load none (.t 3), none⟩, ⟨some 5, .bin .neq (.t 4) (.c (.int .i64 1)), none⟩, ⟨some 6, .mv (.t 5), none⟩, ⟨some 7, .faddr 3 (.t 1), some (6, true)⟩, ⟨some 8, .load none (.t 7), some (6, true)⟩, ⟨some 9, .bin .neq (.t 8) (.c (.int .i64 0)), some (6, true)⟩, ⟨some 10, .pick (.t 6) (.t 9) (.c (.bool false)), none⟩, ⟨some 11, .mv (.t 10), none⟩, ⟨some 12, .faddr 0 (.t 1), some (11, false)⟩, ⟨some 13, .load none (.t 12), some (11, false)⟩, ⟨some 14, .bin .neq (.t 13) (.c (.int .i64 8)), some (11, false)⟩, ⟨some 15, .mv (.t 14), some (11, false)⟩, ⟨some 16, .faddr 0 (.t 1), some (15, true)⟩, ⟨some 17, .load none (.t 16), some (15, true)⟩, ⟨some 18, .bin .neq (.t 17) (.c (.int .i64 9)), some (15, true)⟩, ⟨some 19, .pick (.t 15) (.t 18) (.c (.bool false)), some (11, false)⟩, ⟨some 20, .mv (.t 19), some (11, false)⟩, ⟨some 21, .faddr 2 (.t 1), some (20, true)⟩, ⟨some 22, .load none (.t 21), some (20, true)⟩, ⟨some 23, .bin .neq (.t 22) (.c (.int .i64 0)), some (20, true)⟩, ⟨some 24, .pick (.t 20) (.t 23) (.c (.bool false)), some (11, false)⟩, ⟨some 25, .pick (.t 11) (.c (.bool true)) (.t 24), none⟩])
  (.cond (.t 25) (.seq (.ops false [⟨some 2, .mv (.c (.bool false)), none⟩])
   (.ret))
   (.skip)))
  (.seq (.seq (.ops false [⟨some 26, .faddr 0 (.t 1), none⟩, ⟨some 27, .load none (.t 26), none⟩])
  (.block 0 (.seq (.ops false [⟨some 29, .bin .eql (.t 27) (.c (.int .i64 1)), none⟩, ⟨some 28, .mv (.t 29), none⟩])
   (.cond (.t 28) (.seq (.ops false [⟨some 30, .faddr 1 (.t 1), none⟩, ⟨some 31, .load none (.t 30), none⟩, ⟨some 32, .bin .geq (.t 31) (.c (.int .i64 1)), none⟩, ⟨some 33, .mv (.t 32), none⟩, ⟨some 34, .faddr 1 (.t 1), some (33, true)⟩, ⟨some 35, .load none (.t 34), some (33, true)⟩, ⟨some 36, .bin .leq (.t 35) (.c (.int .i64 1000)), some (33, true)⟩, ⟨some 37, .pick (.t 33) (.t 36) (.c (.bool false)), none⟩, ⟨some 2, .mv (.t 37), none⟩])
    (.ret))
    (.seq (.seq (.ops false [⟨some 39, .bin .eql (.t 27) (.c (.int .i64 2)), none⟩, ⟨some 38, .mv (.t 39), none⟩])
    (.cond (.t 38) (.skip)
     (.seq (.ops false [⟨some 40, .bin .eql (.t 27) (.c (.int .i64 3)), none⟩, ⟨some 38, .mv (.t 40), none⟩])
     (.cond (.t 38) (.skip)
      (.seq (.ops false [⟨some 41, .bin .eql (.t 27) (.c (.int .i64 6)), none⟩, ⟨some 38, .mv (.t 41), none⟩])
      (.cond (.t 38) (.skip)
       (.ops false [⟨some 42, .bin .eql (.t 27) (.c (.int .i64 7)), none⟩, ⟨some 38, .mv (.t 42), none⟩])))))))
    (.cond (.t 38) (.seq (.ops false [⟨some 43, .faddr 1 (.t 1), none⟩, ⟨some 44, .load none (.t 43), none⟩, ⟨some 45, .callP 21 [(.t 44)], none⟩, ⟨some 2, .mv (.t 45), none⟩])
     (.ret))
     (.seq (.ops false [⟨some 47, .bin .eql (.t 27) (.c (.int .i64 4)), none⟩, ⟨some 46, .mv (.t 47), none⟩])
     (.cond (.t 46) (.seq (.ops false [⟨some 48, .faddr 1 (.t 1), none⟩, ⟨some 49, .load none (.t 48), none⟩, ⟨some 50, .bin .eql (.t 49) (.c (.int .i64 1)), none⟩, ⟨some 51, .mv (.t 50), none⟩, ⟨some 52, .faddr 1 (.t 1), some (51, false)⟩, ⟨some 53, .load none (.t 52), some (51, false)⟩, ⟨some 54, .bin .eql (.t 53) (.c (.int .i64 2)), some (51, false)⟩, ⟨some 55, .pick (.t 51) (.c (.bool true)) (.t 54), none⟩, ⟨some 2, .mv (.t 55), none⟩])
      (.ret))
      (.seq (.ops false [⟨some 57, .bin .eql (.t 27) (.c (.int .i64 5)), none⟩, ⟨some 56, .mv (.t 57), none⟩])
      (.cond (.t 56) (.seq (.ops false [⟨some 58, .faddr 1 (.t 1), none⟩, ⟨some 59, .load none (.t 58), none⟩, ⟨some 60, .bin .geq (.t 59) (.c (.int .i64 3)), none⟩, ⟨some 61, .mv (.t 60), none⟩, ⟨some 62, .faddr 1 (.t 1), some (61, true)⟩, ⟨some 63, .load none (.t 62), some (61, true)⟩, ⟨some 64, .bin .leq (.t 63) (.c (.int .i64 16)), some (61, true)⟩, ⟨some 65, .pick (.t 61) (.t 64) (.c (.bool false)), none⟩, ⟨some 2, .mv (.t 65), none⟩])
       (.ret))
       (.seq (.seq (.ops false [⟨some 67, .bin .eql (.t 27) (.c (.int .i64 8)), none⟩, ⟨some 66, .mv (.t 67), none⟩])
       (.cond (.t 66) (.skip)
        (.ops false [⟨some 68, .bin .eql (.t 27) (.c (.int .i64 9)), none⟩, ⟨some 66, .mv (.t 68), none⟩])))
       (.cond (.t 66) (.seq (.ops false [⟨some 69, .faddr 1 (.t 1), none⟩, ⟨some 70, .load none (.t 69), none⟩, ⟨some 71, .callP 21 [(.t 70)], none⟩, ⟨some 72, .mv (.t 71), none⟩, ⟨some 73, .faddr 2 (.t 1), some (72, true)⟩, ⟨some 74, .load none (.t 73), some (72, true)⟩, ⟨some 75, .bin .geq (.t 74) (.c (.int .i64 1)), some (72, true)⟩, ⟨some 76, .pick (.t 72) (.t 75) (.c (.bool false)), none⟩, ⟨some 77, .mv (.t 76), none⟩, ⟨some 78, .faddr 2 (.t 1), some (77, true)⟩, ⟨some 79, .load none (.t 78), some (77, true)⟩, ⟨some 80, .bin .leq (.t 79) (.c (.int .i64 8)), some (77, true)⟩, ⟨some 81, .pick (.t 77) (.t 80) (.c (.bool false)), none⟩, ⟨some 2, .mv (.t 81), none⟩])
        (.ret))
        (.seq (.ops false [⟨some 83, .bin .eql (.t 27) (.c (.int .i64 10)), none⟩, ⟨some 82, .mv (.t 83), none⟩])
        (.cond (.t 82) (.seq (.ops false [⟨some 84, .faddr 1 (.t 1), none⟩, ⟨some 85, .load none (.t 84), none⟩, ⟨some 86, .bin .eql (.t 85) (.c (.int .i64 0)), none⟩, ⟨some 2, .mv (.t 86), none⟩])
         (.ret))
         (.skip)))))))))))))))
  (.seq (.ops false [⟨some 2, .mv (.c (.bool false)), none⟩])
  (.ret)))),
  [.t 2]⟩

/- noria/instr.Text -/
def d_instr_Text : DFun := ⟨
  .seq (.ops false [⟨some 1, .box (.t 0), none⟩, ⟨some 2, .mv (.c (.str [])), none⟩])
  (.seq (.seq (.ops false [⟨some 6, .load (some 4) (.t 1), none⟩, ⟨some 7, .callP 8 [(.t 6)], none⟩, ⟨some 8, .un .not (.t 7), none⟩])
  (.cond (.t 8) (.seq (.ops false [⟨some 2, .mv (.c (.str [])), none⟩])
   (.ret))
   (.skip)))
  (.seq (.ops false [⟨some 10, .faddr 0 (.t 1), none⟩, ⟨some 11, .load none (.t 10), none⟩, ⟨some 12, .callP 18 [(.t 11)], none⟩, ⟨some 9, .mv (.t 12), none⟩, ⟨some 13, .extract 0 (.t 9), none⟩, ⟨some 14, .extract 1 (.t 9), none⟩, ⟨some 3, .alloc [.str [], .bool false, .bool false, .bool false, .bool false], none⟩, ⟨none, .store 5 (.t 3) (.t 13), none⟩, ⟨some 4, .mv (.t 14), none⟩])
  (.seq (.ops false [⟨some 15, .faddr 0 (.t 3), none⟩, ⟨some 16, .load none (.t 15), none⟩, ⟨some 17, .bslice false [.str []] [(some (.t 16))], none⟩, ⟨some 5, .mv (.t 17), none⟩])
  (.seq (.seq (.ops false [⟨some 18, .faddr 1 (.t 3), none⟩, ⟨some 19, .load none (.t 18), none⟩])
  (.cond (.t 19) (.ops false [⟨some 20, .mv (.t 5), none⟩, ⟨some 21, .faddr 1 (.t 1), none⟩, ⟨some 22, .load none (.t 21), none⟩, ⟨some 23, .callP 22 [(.t 22)], none⟩, ⟨some 24, .bslice true [.str []] [(some (.t 23))], none⟩, ⟨some 25, .append 1 (.t 20) (.t 24), none⟩, ⟨some 5, .mv (.t 25), none⟩])
   (.skip)))
  (.seq (.seq (.ops false [⟨some 26, .faddr 2 (.t 3), none⟩, ⟨some 27, .load none (.t 26), none⟩])
  (.cond (.t 27) (.ops false [⟨some 28, .mv (.t 5), none⟩, ⟨some 29, .faddr 1 (.t 1), none⟩, ⟨some 30, .load none (.t 29), none⟩, ⟨some 31, .callP 23 [(.t 30)], none⟩, ⟨some 32, .bslice true [.str []] [(some (.t 31))], none⟩, ⟨some 33, .append 1 (.t 28) (.t 32), none⟩, ⟨some 5, .mv (.t 33), none⟩])
   (.skip)))
  (.seq (.seq (.ops false [⟨some 34, .faddr 3 (.t 3), none⟩, ⟨some 35, .load none (.t 34), none⟩])
  (.cond (.t 35) (.ops false [⟨some 36, .mv (.t 5), none⟩, ⟨some 37, .faddr 2 (.t 1), none⟩, ⟨some 38, .load none (.t 37), none⟩, ⟨some 39, .callP 22 [(.t 38)], none⟩, ⟨some 40, .bslice true [.str []] [(some (.t 39))], none⟩, ⟨some 41, .append 1 (.t 36) (.t 40), none⟩, ⟨some 5, .mv (.t 41), none⟩])
   (.skip)))
  (.seq (.seq (.ops false [⟨some 42, .faddr 4 (.t 3), none⟩, ⟨some 43, .load none (.t 42), none⟩])
  (.cond (.t 43) (.ops false [⟨some 44, .mv (.t 5), none⟩, ⟨some 45, .faddr 3 (.t 1), none⟩, ⟨some 46, .load none (.t 45), none⟩, ⟨some 47, .callP 24 [(.t 46), (.c (.int .i64 10))], none⟩, ⟨some 48, .bslice true [.str []] [(some (.t 47))], none⟩, ⟨some 49, .append 1 (.t 44) (.t 48), none⟩, ⟨some 5, .mv (.t 49), none⟩])
   (.skip)))
  (.seq (.ops false [⟨some 50, .mv (.t 5), none⟩, ⟨some 51, .callP 25 [(.t 50), (.c (.str [32]))], none⟩, ⟨some 2, .mv (.t 51), none⟩])
  (.ret))))))))),
  [.t 2]⟩

/- noria/noriaref28.Text -/
def d_noriaref28_Text : DFun := ⟨
  .seq (.ops false [⟨some 1, .box (.t 0), none⟩, ⟨some 2, .mv (.c (.str [])), none⟩])
  (.seq (.seq (.ops false [⟨some 4, .load (some 4) (.t 1), none⟩, ⟨some 5, .callP 9 [(.t 4)], none⟩, ⟨some 6, .un .not (.t 5), none⟩])
  (.cond (.t 6) (.seq (.ops false [⟨some 2, .mv (.c (.str [])), none⟩])
   (.ret))
   (.skip)))
  (.seq (.ops false [⟨some 7, .faddr 1 (.t 1), none⟩, ⟨some 8, .load none (.t 7), none⟩, ⟨some 9, .callP 26 [(.t 8)], none⟩, ⟨some 3, .mv (.t 9), none⟩])
  (.seq (.seq (.ops false [⟨some 10, .faddr 0 (.t 1), none⟩, ⟨some 11, .load none (.t 10), none⟩])
  (.block 0 (.seq (.ops false [⟨some 13, .bin .eql (.t 11) (.c (.int .i64 1)), none⟩, ⟨some 12, .mv (.t 13), none⟩])
   (.cond (.t 12) (.seq (.ops false [⟨some 14, .mv (.t 3), none⟩, ⟨some 15, .bin .add (.c (.str [112, 117, 115, 104, 32])) (.t 14), none⟩, ⟨some 16, .bin .add (.t 15) (.c (.str [32])), none⟩, ⟨some 17, .faddr 3 (.t 1), none⟩, ⟨some 18, .load none (.t 17), none⟩, ⟨some 19, .callP 26 [(.t 18)], none⟩, ⟨some 20, .bin .add (.t 16) (.t 19), none⟩, ⟨some 2, .mv (.t 20), none⟩])
    (.ret))
    (.seq (.ops false [⟨some 22, .bin .eql (.t 11) (.c (.int .i64 2)), none⟩, ⟨some 21, .mv (.t 22), none⟩])
    (.cond (.t 21) (.seq (.ops false [⟨some 23, .mv (.t 3), none⟩, ⟨some 24, .bin .add (.c (.str [108, 111, 97, 100, 32])) (.t 23), none⟩, ⟨some 2, .mv (.t 24), none⟩])
     (.ret))
     (.seq (.ops false [⟨some 26, .bin .eql (.t 11) (.c (.int .i64 3)), none⟩, ⟨some 25, .mv (.t 26), none⟩])
     (.cond (.t 25) (.seq (.ops false [⟨some 27, .mv (.t 3), none⟩, ⟨some 28, .bin .add (.c (.str [115, 116, 111, 114, 101, 32])) (.t 27), none⟩, ⟨some 2, .mv (.t 28), none⟩])
      (.ret))
      (.seq (.ops false [⟨some 30, .bin .eql (.t 11) (.c (.int .i64 4)), none⟩, ⟨some 29, .mv (.t 30), none⟩])
      (.cond (.t 29) (.seq (.ops false [⟨some 31, .faddr 1 (.t 1), none⟩, ⟨some 32, .load none (.t 31), none⟩, ⟨some 33, .callP 27 [(.t 32)], none⟩, ⟨some 34, .bin .add (.c (.str [117, 110, 32])) (.t 33), none⟩, ⟨some 2, .mv (.t 34), none⟩])
       (.ret))
       (.seq (.ops false [⟨some 36, .bin .eql (.t 11) (.c (.int .i64 5)), none⟩, ⟨some 35, .mv (.t 36), none⟩])
       (.cond (.t 35) (.seq (.ops false [⟨some 37, .faddr 1 (.t 1), none⟩, ⟨some 38, .load none (.t 37), none⟩, ⟨some 39, .callP 27 [(.t 38)], none⟩, ⟨some 40, .bin .add (.c (.str [98, 105, 110, 32])) (.t 39), none⟩, ⟨some 2, .mv (.t 40), none⟩])
        (.ret))
        (.seq (.ops false [⟨some 42, .bin .eql (.t 11) (.c (.int .i64 6)), none⟩, ⟨some 41, .mv (.t 42), none⟩])
        (.cond (.t 41) (.seq (.ops false [⟨some 43, .mv (.t 3), none⟩, ⟨some 44, .bin .add (.c (.str [106, 117, 109, 112, 32])) (.t 43), none⟩, ⟨some 2, .mv (.t 44), none⟩])
         (.ret))
         (.seq (.ops false [⟨some 46, .bin .eql (.t 11) (.c (.int .i64 7)), none⟩, ⟨some 45, .mv (.t 46), none⟩])
         (.cond (.t 45) (.seq (.ops false [⟨some 47, .mv (.t 3), none⟩, ⟨some 48, .bin .add (.c (.str [122, 101, 114, 111, 32])) (.t 47), none⟩, ⟨some 2, .mv (.t 48), none⟩])
          (.ret))
          (.seq (.ops false [⟨some 50, .bin .eql (.t 11) (.c (.int .i64 8)), none⟩, ⟨some 49, .mv (.t 50), none⟩])
          (.cond (.t 49) (.seq (.ops false [⟨some 51, .mv (.t 3), none⟩, ⟨some 52, .bin .add (.c (.str [103, 101, 116, 32])) (.t 51), none⟩, ⟨some 53, .bin .add (.t 52) (.c (.str [32])), none⟩, ⟨some 54, .faddr 2 (.t 1), none⟩, ⟨some 55, .load none (.t 54), none⟩, ⟨some 56, .callP 26 [(.t 55)], none⟩, ⟨some 57, .bin .add (.t 53) (.t 56), none⟩, ⟨some 2, .mv (.t 57), none⟩])
           (.ret))
           (.seq (.ops false [⟨some 59, .bin .eql (.t 11) (.c (.int .i64 9)), none⟩, ⟨some 58, .mv (.t 59), none⟩])
           (.cond (.t 58) (.seq (.ops false [⟨some 60, .mv (.t 3), none⟩, ⟨some 61, .bin .add (.c (.str [112, 117, 116, 32])) (.t 60), none⟩, ⟨some 62, .bin .add (.t 61) (.c (.str [32])), none⟩, ⟨some 63, .faddr 2 (.t 1), none⟩, ⟨some 64, .load none (.t 63), none⟩, ⟨some 65, .callP 26 [(.t 64)], none⟩, ⟨some 66, .bin .add (.t 62) (.t 65), none⟩, ⟨some 2, .mv (.t 66), none⟩])
            (.ret))
            (.skip)))))))))))))))))))))
  (.seq (.ops false [⟨some 2, .mv (.c (.str [104, 97, 108, 116])), none⟩])
  (.ret))))),
  [.t 2]⟩

/- noria/instr.Put -/
def d_instr_Put : DFun := ⟨
  .seq (.ops false [⟨some 2, .mv (.c (.nil)), none⟩, ⟨some 3, .mv (.c (.bool false)), none⟩])
  (.seq (.ops false [⟨some 7, .callH 28 [], none⟩, ⟨some 8, .build [.nilp] [(0, 1, (.t 7))], none⟩, ⟨some 4, .alloc [.nilp], none⟩, ⟨none, .store 1 (.t 4) (.t 8), none⟩])
  (.gown 7 0 1 (.seq (.seq (.ops false [⟨some 9, .mv (.t 0), none⟩, ⟨some 10, .len (.t 9), none⟩, ⟨some 11, .mv (.c (.int .i64 0)), none⟩])
  (.block 0 (.loop [0, 4, 9, 10, 11] (some 3) (.seq (.ops false [⟨some 12, .bin .lss (.t 11) (.t 10), none⟩])
    (.seq (.cond (.t 12) (.skip)
     (.exit 0))
    (.seq (.block 1 (.seq (.ops false [⟨some 13, .iaddr 4 (.t 9) (.t 11), none⟩, ⟨some 14, .load (some 4) (.t 13), none⟩, ⟨some 6, .alloc [.int .i64 0, .int .i64 0, .int .i64 0, .int .i64 0], none⟩, ⟨none, .store 4 (.t 6) (.t 14), none⟩])
     (.seq (.seq (.ops false [⟨some 15, .load (some 4) (.t 6), none⟩, ⟨some 16, .callP 8 [(.t 15)], none⟩, ⟨some 17, .un .not (.t 16), none⟩])
     (.cond (.t 17) (.seq (.ops false [⟨some 2, .mv (.c (.nil)), none⟩, ⟨some 3, .mv (.c (.bool false)), none⟩])
      (.ret))
      (.skip)))
     (.ops false [⟨some 18, .load (some 1) (.t 4), none⟩, ⟨some 19, .load (some 4) (.t 6), none⟩, ⟨some 20, .callH 29 [(.t 18), (.t 19)], none⟩]))))
    (.ops false [⟨some 21, .bin .add (.t 11) (.c (.int .i64 1)), none⟩, ⟨some 11, .mv (.t 21), none⟩])))))))
  (.seq (.seq (.ops false [⟨some 22, .mv (.t 0), none⟩, ⟨some 23, .len (.t 22), none⟩, ⟨some 24, .bin .gtr (.t 23) (.c (.int .i64 6000)), none⟩])
  (.cond (.t 24) (.seq (.ops false [⟨some 2, .mv (.c (.nil)), none⟩, ⟨some 3, .mv (.c (.bool false)), none⟩])
   (.ret))
   (.skip)))
  (.seq (.ops false [⟨some 25, .faddr 0 (.t 4), none⟩, ⟨some 26, .load none (.t 25), none⟩, ⟨some 27, .callH 30 [(.t 26)], none⟩, ⟨some 2, .mv (.t 27), none⟩, ⟨some 3, .mv (.c (.bool true)), none⟩])
  (.ret)))))),
  [.t 2, .t 3]⟩

/- noria/noriaref28.Put -/
def d_noriaref28_Put : DFun := ⟨
  .seq (.ops false [⟨some 2, .mv (.c (.nil)), none⟩, ⟨some 3, .mv (.c (.bool false)), none⟩])
  (.seq (.seq (.ops false [⟨some 7, .mv (.t 0), none⟩, ⟨some 8, .len (.t 7), none⟩, ⟨some 9, .bin .gtr (.t 8) (.c (.int .i64 6000)), none⟩])
  (.cond (.t 9) (.seq (.ops false [⟨some 2, .mv (.c (.nil)), none⟩, ⟨some 3, .mv (.c (.bool false)), none⟩])
   (.ret))
   (.skip)))
  (.seq (.ops false [⟨some 10, .build [.nil, .bool false] [], none⟩, ⟨some 11, .box (.t 10), none⟩, ⟨some 4, .mv (.t 11), none⟩])
  (.gown 4 0 1 (.seq (.seq (.ops false [⟨some 5, .mv (.c (.int .i64 0)), none⟩])
  (.block 0 (.loop [0, 4, 5] (some 2) (.seq (.seq (.ops false [⟨some 12, .mv (.t 5), none⟩, ⟨some 13, .mv (.t 0), none⟩, ⟨some 14, .len (.t 13), none⟩, ⟨some 15, .bin .lss (.t 12) (.t 14), none⟩])
    (.cond (.t 15) (.skip)
     (.exit 0)))
    (.seq (.block 1 (.seq (.ops false [⟨some 18, .mv (.t 0), none⟩, ⟨some 19, .mv (.t 5), none⟩, ⟨some 20, .iaddr 4 (.t 18) (.t 19), none⟩, ⟨some 21, .load (some 4) (.t 20), none⟩, ⟨some 6, .alloc [.int .i64 0, .int .i64 0, .int .i64 0, .int .i64 0], none⟩, ⟨none, .store 4 (.t 6) (.t 21), none⟩])
     (.seq (.seq (.ops false [⟨some 22, .load (some 4) (.t 6), none⟩, ⟨some 23, .callP 9 [(.t 22)], none⟩, ⟨some 24, .un .not (.t 23), none⟩])
     (.cond (.t 24) (.seq (.ops false [⟨some 2, .mv (.c (.nil)), none⟩, ⟨some 3, .mv (.c (.bool false)), none⟩])
      (.ret))
      (.skip)))
     (.seq (.ops false [⟨some 25, .mv (.t 4), none⟩, ⟨some 26, .faddr 0 (.t 6), none⟩, ⟨some 27, .load none (.t 26), none⟩, ⟨some 28, .callH 31 [(.t 25), (.t 27), (.c (.int .i64 1))], none⟩])
     (.seq (.ops false [⟨some 29, .faddr 0 (.t 6), none⟩, ⟨some 30, .load none (.t 29), none⟩])
     (.block 2 (.seq (.ops false [⟨some 32, .bin .eql (.t 30) (.c (.int .i64 1)), none⟩, ⟨some 31, .mv (.t 32), none⟩])
      (.cond (.t 31) (.seq (.ops false [⟨some 33, .mv (.t 4), none⟩, ⟨some 34, .faddr 1 (.t 6), none⟩, ⟨some 35, .load none (.t 34), none⟩, ⟨some 36, .callH 31 [(.t 33), (.t 35), (.c (.int .i64 2))], none⟩])
       (.ops false [⟨some 37, .mv (.t 4), none⟩, ⟨some 38, .faddr 3 (.t 6), none⟩, ⟨some 39, .load none (.t 38), none⟩, ⟨some 40, .callH 32 [(.t 37), (.t 39)], none⟩]))
       (.seq (.seq (.ops false [⟨some 42, .bin .eql (.t 30) (.c (.int .i64 2)), none⟩, ⟨some 41, .mv (.t 42), none⟩])
       (.cond (.t 41) (.skip)
        (.seq (.ops false [⟨some 43, .bin .eql (.t 30) (.c (.int .i64 3)), none⟩, ⟨some 41, .mv (.t 43), none⟩])
        (.cond (.t 41) (.skip)
         (.seq (.ops false [⟨some 44, .bin .eql (.t 30) (.c (.int .i64 6)), none⟩, ⟨some 41, .mv (.t 44), none⟩])
         (.cond (.t 41) (.skip)
          (.ops false [⟨some 45, .bin .eql (.t 30) (.c (.int .i64 7)), none⟩, ⟨some 41, .mv (.t 45), none⟩])))))))
       (.cond (.t 41) (.ops false [⟨some 46, .mv (.t 4), none⟩, ⟨some 47, .faddr 1 (.t 6), none⟩, ⟨some 48, .load none (.t 47), none⟩, ⟨some 49, .callH 31 [(.t 46), (.t 48), (.c (.int .i64 2))], none⟩])
        (.seq (.seq (.ops false [⟨some 51, .bin .eql (.t 30) (.c (.int .i64 4)), none⟩, ⟨some 50, .mv (.t 51), none⟩])
        (.cond (.t 50) (.skip)
         (.ops false [⟨some 52, .bin .eql (.t 30) (.c (.int .i64 5)), none⟩, ⟨some 50, .mv (.t 52), none⟩])))
        (.cond (.t 50) (.ops false [⟨some 53, .mv (.t 4), none⟩, ⟨some 54, .faddr 1 (.t 6), none⟩, ⟨some 55, .load none (.t 54), none⟩, ⟨some 56, .callH 31 [(.t 53), (.t 55), (.c (.int .i64 1))], none⟩])
         (.seq (.seq (.ops false [⟨some 58, .bin .eql (.t 30) (.c (.int .i64 8)), none⟩, ⟨some 57, .mv (.t 58), none⟩])
         (.cond (.t 57) (.skip)
          (.ops false [⟨some 59, .bin .eql (.t 30) (.c (.int .i64 9)), none⟩, ⟨some 57, .mv (.t 59), none⟩])))
         (.cond (.t 57) (.seq (.ops false [⟨some 60, .mv (.t 4), none⟩, ⟨some 61, .faddr 1 (.t 6), none⟩, ⟨some 62, .load none (.t 61), none⟩, ⟨some 63, .callH 31 [(.t 60), (.t 62), (.c (.int .i64 2))], none⟩])
          (.ops false [⟨some 64, .mv (.t 4), none⟩, ⟨some 65, .faddr 2 (.t 6), none⟩, ⟨some 66, .load none (.t 65), none⟩, ⟨some 67, .callH 31 [(.t 64), (.t 66), (.c (.int .i64 1))], none⟩]))
          (.skip)))))))))))))))
    (.ops false [⟨some 16, .mv (.t 5), none⟩, ⟨some 17, .bin .add (.t 16) (.c (.int .i64 1)), none⟩, ⟨some 5, .mv (.t 17), none⟩]))))))
  (.seq (.ops false [⟨some 68, .mv (.t 4), none⟩, ⟨some 69, .nilck (.t 68), none⟩, ⟨some 70, .faddr 0 (.t 69), none⟩, ⟨some 71, .load none (.t 70), none⟩, ⟨some 2, .mv (.t 71), none⟩, ⟨some 3, .mv (.c (.bool true)), none⟩])
  (.ret)))))),
  [.t 2, .t 3]⟩

/- noria/noriaref01.Same -/
def d_noriaref01_Same : DFun := ⟨
  .seq (.ops false [⟨some 4, .mv (.c (.bool false)), none⟩])
  (.seq (.seq (.ops false [⟨some 6, .mv (.t 0), none⟩, ⟨some 7, .len (.t 6), none⟩, ⟨some 8, .mv (.t 1), none⟩, ⟨some 9, .len (.t 8), none⟩, ⟨some 10, .bin .neq (.t 7) (.t 9), none⟩])
  (.cond (.t 10) (.seq (.ops false [⟨some 4, .mv (.c (.bool false)), none⟩])
   (.ret))
   (.skip)))
  (.seq (.seq (.ops false [⟨some 5, .mv (.c (.int .i64 0)), none⟩])
  (.block 0 (.loop [0, 1, 5] (some 0) (.seq (.seq (.ops false [⟨some 11, .mv (.t 5), none⟩, ⟨some 12, .mv (.t 0), none⟩, ⟨some 13, .len (.t 12), none⟩, ⟨some 14, .bin .lss (.t 11) (.t 13), none⟩])
    (.cond (.t 14) (.skip)
     (.exit 0)))
    (.seq (.block 1 (.seq (.ops true [⟨some 17, .mv (.t 0), none⟩, ⟨some 18, .mv (.t 5), none⟩, ⟨some 19, .iaddr 1 (.t 17) (.t 18), none⟩, ⟨some 20, .load none (.t 19), none⟩, ⟨some 21, .mv (.t 1), none⟩, ⟨some 22, .mv (.t 5), none⟩, ⟨some 23, .iaddr 1 (.t 21) (.t 22), none⟩, ⟨some 24, .load none (.t 23), none⟩, ⟨some 25, .bin .neq (.t 20) (.t 24), none⟩])
     (.cond (.t 25) (.seq (.ops false [⟨some 4, .mv (.c (.bool false)), none⟩])
      (.ret))
      (.skip))))
    (.ops false [⟨some 15, .mv (.t 5), none⟩, ⟨some 16, .bin .add (.t 15) (.c (.int .i64 1)), none⟩, ⟨some 5, .mv (.t 16), none⟩]))))))
  (.seq (.ops false [⟨some 4, .mv (.c (.bool true)), none⟩])
  (.ret)))),
  [.t 4]⟩

/- noria/instr.Get -/
def d_instr_Get : DFun := ⟨
  .seq (.ops false [⟨some 2, .mv (.c (.nil)), none⟩, ⟨some 3, .mv (.c (.bool false)), none⟩])
  (.seq (.ops false [⟨some 4, .mkown 4 (.c (.nil)), none⟩])
  (.seq (.ops false [⟨some 7, .mv (.t 0), none⟩, ⟨some 8, .callH 33 [(.t 7)], none⟩, ⟨some 9, .build [.nilp] [(0, 1, (.t 8))], none⟩, ⟨some 5, .alloc [.nilp], none⟩, ⟨none, .store 1 (.t 5) (.t 9), none⟩])
  (.seq (.block 0 (.loop [4, 5] (some 3) (.seq (.seq (.ops false [⟨some 10, .faddr 0 (.t 5), none⟩, ⟨some 11, .load none (.t 10), none⟩, ⟨some 12, .callH 34 [(.t 11)], none⟩])
    (.cond (.t 12) (.skip)
     (.exit 0)))
    (.block 1 (.seq (.ops false [⟨some 13, .load (some 1) (.t 5), none⟩, ⟨some 14, .callH 35 [(.t 13)], none⟩, ⟨some 6, .alloc [.int .i64 0, .int .i64 0, .int .i64 0, .int .i64 0], none⟩, ⟨none, .store 4 (.t 6) (.t 14), none⟩])
     (.seq (.seq (.ops false [⟨some 15, .faddr 0 (.t 5), none⟩, ⟨some 16, .load none (.t 15), none⟩, ⟨some 17, .callH 36 [(.t 16)], none⟩, ⟨some 18, .un .not (.t 17), none⟩, ⟨some 19, .mv (.t 18), none⟩, ⟨some 20, .load (some 4) (.t 6), some (19, false)⟩, ⟨some 21, .callP 8 [(.t 20)], some (19, false)⟩, ⟨some 22, .un .not (.t 21), some (19, false)⟩, ⟨some 23, .pick (.t 19) (.c (.bool true)) (.t 22), none⟩, ⟨some 24, .mv (.t 23), none⟩, ⟨some 25, .mv (.t 4), some (24, false)⟩, ⟨some 26, .len (.t 25), some (24, false)⟩, ⟨some 27, .bin .eql (.t 26) (.c (.int .i64 6000)), some (24, false)⟩, ⟨some 28, .pick (.t 24) (.c (.bool true)) (.t 27), none⟩])
     (.cond (.t 28) (.seq (.ops false [⟨some 2, .mv (.c (.nil)), none⟩, ⟨some 3, .mv (.c (.bool false)), none⟩])
      (.ret))
      (.skip)))
     (.ops false [⟨some 29, .mv (.t 4), none⟩, ⟨some 30, .load (some 4) (.t 6), none⟩, ⟨some 31, .bslice true [.int .i64 0, .int .i64 0, .int .i64 0, .int .i64 0] [(some (.t 30))], none⟩, ⟨some 32, .append 4 (.t 29) (.t 31), none⟩, ⟨some 4, .mv (.t 32), none⟩])))))))
  (.seq (.ops false [⟨some 33, .mv (.t 4), none⟩, ⟨some 2, .mv (.t 33), none⟩, ⟨some 3, .mv (.c (.bool true)), none⟩])
  (.ret))))),
  [.t 2, .t 3]⟩

/- noria/noriaref28.Get -/
def d_noriaref28_Get : DFun := ⟨
  .seq (.ops false [⟨some 2, .mv (.c (.nil)), none⟩, ⟨some 3, .mv (.c (.bool false)), none⟩])
  (.seq (.ops false [⟨some 7, .mv (.t 0), none⟩, ⟨some 8, .callH 37 [(.t 7)], none⟩, ⟨some 4, .mv (.t 8), none⟩])
  (.seq (.ops false [⟨some 9, .bslice false [.int .i64 0, .int .i64 0, .int .i64 0, .int .i64 0] [], none⟩, ⟨some 5, .mv (.t 9), none⟩])
  (.seq (.block 0 (.loop [4, 5] (some 2) (.seq (.seq (.ops false [⟨some 10, .mv (.t 4), none⟩, ⟨some 11, .callH 38 [(.t 10)], none⟩])
    (.cond (.t 11) (.skip)
     (.exit 0)))
    (.block 1 (.seq (.ops false [⟨some 12, .mv (.t 4), none⟩, ⟨some 13, .callH 39 [(.t 12)], none⟩, ⟨some 6, .alloc [.int .i64 0, .int .i64 0, .int .i64 0, .int .i64 0], none⟩, ⟨none, .store 4 (.t 6) (.t 13), none⟩])
     (.seq (.seq (.ops false [⟨some 14, .mv (.t 4), none⟩, ⟨some 15, .nilck (.t 14), none⟩, ⟨some 16, .faddr 2 (.t 15), none⟩, ⟨some 17, .load none (.t 16), none⟩, ⟨some 18, .mv (.t 17), none⟩, ⟨some 19, .load (some 4) (.t 6), some (18, false)⟩, ⟨some 20, .callP 9 [(.t 19)], some (18, false)⟩, ⟨some 21, .un .not (.t 20), some (18, false)⟩, ⟨some 22, .pick (.t 18) (.c (.bool true)) (.t 21), none⟩, ⟨some 23, .mv (.t 22), none⟩, ⟨some 24, .mv (.t 5), some (23, false)⟩, ⟨some 25, .len (.t 24), some (23, false)⟩, ⟨some 26, .bin .eql (.t 25) (.c (.int .i64 6000)), some (23, false)⟩, ⟨some 27, .pick (.t 23) (.c (.bool true)) (.t 26), none⟩])
     (.cond (.t 27) (.seq (.ops false [⟨some 2, .mv (.c (.nil)), none⟩, ⟨some 3, .mv (.c (.bool false)), none⟩])
      (.ret))
      (.skip)))
     (.ops false [⟨some 28, .mv (.t 5), none⟩, ⟨some 29, .load (some 4) (.t 6), none⟩, ⟨some 30, .bslice true [.int .i64 0, .int .i64 0, .int .i64 0, .int .i64 0] [(some (.t 29))], none⟩, ⟨some 31, .append 4 (.t 28) (.t 30), none⟩, ⟨some 5, .mv (.t 31), none⟩])))))))
  (.seq (.ops false [⟨some 32, .mv (.t 5), none⟩, ⟨some 2, .mv (.t 32), none⟩, ⟨some 3, .mv (.c (.bool true)), none⟩])
  (.ret))))),
  [.t 2, .t 3]⟩

/- noria/noriaref28.Same -/
def d_noriaref28_Same : DFun := ⟨
  .seq (.ops false [⟨some 4, .mv (.c (.bool false)), none⟩])
  (.seq (.seq (.ops false [⟨some 6, .mv (.t 0), none⟩, ⟨some 7, .len (.t 6), none⟩, ⟨some 8, .mv (.t 1), none⟩, ⟨some 9, .len (.t 8), none⟩, ⟨some 10, .bin .neq (.t 7) (.t 9), none⟩])
  (.cond (.t 10) (.seq (.ops false [⟨some 4, .mv (.c (.bool false)), none⟩])
   (.ret))
   (.skip)))
  (.seq (.seq (.ops false [⟨some 5, .mv (.c (.int .i64 0)), none⟩])
  (.block 0 (.loop [0, 1, 5] (some 0) (.seq (.seq (.ops false [⟨some 11, .mv (.t 5), none⟩, ⟨some 12, .mv (.t 0), none⟩, ⟨some 13, .len (.t 12), none⟩, ⟨some 14, .bin .lss (.t 11) (.t 13), none⟩])
    (.cond (.t 14) (.skip)
     (.exit 0)))
    (.seq (.block 1 (.seq (.ops true [⟨some 17, .mv (.t 0), none⟩, ⟨some 18, .mv (.t 5), none⟩, ⟨some 19, .iaddr 4 (.t 17) (.t 18), none⟩, ⟨some 20, .load (some 4) (.t 19), none⟩, ⟨some 21, .mv (.t 1), none⟩, ⟨some 22, .mv (.t 5), none⟩, ⟨some 23, .iaddr 4 (.t 21) (.t 22), none⟩, ⟨some 24, .load (some 4) (.t 23), none⟩, ⟨some 25, .aeq true [0, 0, 0, 0] (.t 20) (.t 24), none⟩])
     (.cond (.t 25) (.seq (.ops false [⟨some 4, .mv (.c (.bool false)), none⟩])
      (.ret))
      (.skip))))
    (.ops false [⟨some 15, .mv (.t 5), none⟩, ⟨some 16, .bin .add (.t 15) (.c (.int .i64 1)), none⟩, ⟨some 5, .mv (.t 16), none⟩]))))))
  (.seq (.ops false [⟨some 4, .mv (.c (.bool true)), none⟩])
  (.ret)))),
  [.t 4]⟩

/- noria/instr.of -/
def d_instr_of : DFun := ⟨
  .seq (.ops false [⟨some 2, .alloc [.str [], .bool false, .bool false, .bool false, .bool false], none⟩, ⟨some 3, .mv (.c (.bool false)), none⟩])
  (.seq (.seq (.ops false [⟨some 4, .mv (.t 0), none⟩])
  (.block 0 (.seq (.ops false [⟨some 6, .bin .eql (.t 4) (.c (.int .i64 1)), none⟩, ⟨some 5, .mv (.t 6), none⟩])
   (.cond (.t 5) (.seq (.ops false [⟨some 7, .build [.str [], .bool false, .bool false, .bool false, .bool false] [(0, 1, (.c (.str [112, 117, 115, 104]))), (1, 1, (.c (.bool true))), (4, 1, (.c (.bool true)))], none⟩, ⟨none, .store 5 (.t 2) (.t 7), none⟩, ⟨some 3, .mv (.c (.bool true)), none⟩])
    (.ret))
    (.seq (.ops false [⟨some 9, .bin .eql (.t 4) (.c (.int .i64 2)), none⟩, ⟨some 8, .mv (.t 9), none⟩])
    (.cond (.t 8) (.seq (.ops false [⟨some 10, .build [.str [], .bool false, .bool false, .bool false, .bool false] [(0, 1, (.c (.str [108, 111, 97, 100]))), (1, 1, (.c (.bool true)))], none⟩, ⟨none, .store 5 (.t 2) (.t 10), none⟩, ⟨some 3, .mv (.c (.bool true)), none⟩])
     (.ret))
     (.seq (.ops false [⟨some 12, .bin .eql (.t 4) (.c (.int .i64 3)), none⟩, ⟨some 11, .mv (.t 12), none⟩])
     (.cond (.t 11) (.seq (.ops false [⟨some 13, .build [.str [], .bool false, .bool false, .bool false, .bool false] [(0, 1, (.c (.str [115, 116, 111, 114, 101]))), (1, 1, (.c (.bool true)))], none⟩, ⟨none, .store 5 (.t 2) (.t 13), none⟩, ⟨some 3, .mv (.c (.bool true)), none⟩])
      (.ret))
      (.seq (.ops false [⟨some 15, .bin .eql (.t 4) (.c (.int .i64 4)), none⟩, ⟨some 14, .mv (.t 15), none⟩])
      (.cond (.t 14) (.seq (.ops false [⟨some 16, .build [.str [], .bool false, .bool false, .bool false, .bool false] [(0, 1, (.c (.str [117, 110]))), (2, 1, (.c (.bool true)))], none⟩, ⟨none, .store 5 (.t 2) (.t 16), none⟩, ⟨some 3, .mv (.c (.bool true)), none⟩])
       (.ret))
       (.seq (.ops false [⟨some 18, .bin .eql (.t 4) (.c (.int .i64 5)), none⟩, ⟨some 17, .mv (.t 18), none⟩])
       (.cond (.t 17) (.seq (.ops false [⟨some 19, .build [.str [], .bool false, .bool false, .bool false, .bool false] [(0, 1, (.c (.str [98, 105, 110]))), (2, 1, (.c (.bool true)))], none⟩, ⟨none, .store 5 (.t 2) (.t 19), none⟩, ⟨some 3, .mv (.c (.bool true)), none⟩])
        (.ret))
        (.seq (.ops false [⟨some 21, .bin .eql (.t 4) (.c (.int .i64 6)), none⟩, ⟨some 20, .mv (.t 21), none⟩])
        (.cond (.t 20) (.seq (.ops false [⟨some 22, .build [.str [], .bool false, .bool false, .bool false, .bool false] [(0, 1, (.c (.str [106, 117, 109, 112]))), (1, 1, (.c (.bool true)))], none⟩, ⟨none, .store 5 (.t 2) (.t 22), none⟩, ⟨some 3, .mv (.c (.bool true)), none⟩])
         (.ret))
         (.seq (.ops false [⟨some 24, .bin .eql (.t 4) (.c (.int .i64 7)), none⟩, ⟨some 23, .mv (.t 24), none⟩])
         (.cond (.t 23) (.seq (.ops false [⟨some 25, .build [.str [], .bool false, .bool false, .bool false, .bool false] [(0, 1, (.c (.str [122, 101, 114, 111]))), (1, 1, (.c (.bool true)))], none⟩, ⟨none, .store 5 (.t 2) (.t 25), none⟩, ⟨some 3, .mv (.c (.bool true)), none⟩])
          (.ret))
          (.seq (.ops false [⟨some 27, .bin .eql (.t 4) (.c (.int .i64 8)), none⟩, ⟨some 26, .mv (.t 27), none⟩])
          (.cond (.t 26) (.seq (.ops false [⟨some 28, .build [.str [], .bool false, .bool false, .bool false, .bool false] [(0, 1, (.c (.str [103, 101, 116]))), (1, 1, (.c (.bool true))), (3, 1, (.c (.bool true)))], none⟩, ⟨none, .store 5 (.t 2) (.t 28), none⟩, ⟨some 3, .mv (.c (.bool true)), none⟩])
           (.ret))
           (.seq (.ops false [⟨some 30, .bin .eql (.t 4) (.c (.int .i64 9)), none⟩, ⟨some 29, .mv (.t 30), none⟩])
           (.cond (.t 29) (.seq (.ops false [⟨some 31, .build [.str [], .bool false, .bool false, .bool false, .bool false] [(0, 1, (.c (.str [112, 117, 116]))), (1, 1, (.c (.bool true))), (3, 1, (.c (.bool true)))], none⟩, ⟨none, .store 5 (.t 2) (.t 31), none⟩, ⟨some 3, .mv (.c (.bool true)), none⟩])
            (.ret))
            (.seq (.ops false [⟨some 33, .bin .eql (.t 4) (.c (.int .i64 10)), none⟩, ⟨some 32, .mv (.t 33), none⟩])
            (.cond (.t 32) (.seq (.ops false [⟨some 34, .build [.str [], .bool false, .bool false, .bool false, .bool false] [(0, 1, (.c (.str [104, 97, 108, 116])))], none⟩, ⟨none, .store 5 (.t 2) (.t 34), none⟩, ⟨some 3, .mv (.c (.bool true)), none⟩])
             (.ret))
             (.skip)))))))))))))))))))))))
  (.seq (.ops false [⟨some 35, .build [.str [], .bool false, .bool false, .bool false, .bool false] [], none⟩, ⟨none, .store 5 (.t 2) (.t 35), none⟩, ⟨some 3, .mv (.c (.bool false)), none⟩])
  (.ret))),
  [.cell 2 (some 5), .t 3]⟩

/- noria/instr.first -/
def d_instr_first : DFun := ⟨
  .seq (.ops false [⟨some 1, .box (.t 0), none⟩, ⟨some 2, .mv (.c (.bool false)), none⟩])
  (.seq (.seq (.ops false [⟨some 3, .faddr 0 (.t 1), none⟩, ⟨some 4, .load none (.t 3), none⟩])
  (.block 0 (.seq (.ops false [⟨some 6, .bin .eql (.t 4) (.c (.int .i64 1)), none⟩, ⟨some 5, .mv (.t 6), none⟩])
   (.cond (.t 5) (.seq (.ops false [⟨some 7, .faddr 1 (.t 1), none⟩, ⟨some 8, .load none (.t 7), none⟩, ⟨some 9, .callP 20 [(.t 8), (.c (.int .i64 1)), (.c (.int .i64 1000))], none⟩, ⟨some 2, .mv (.t 9), none⟩])
    (.ret))
    (.seq (.ops false [⟨some 11, .bin .eql (.t 4) (.c (.int .i64 4)), none⟩, ⟨some 10, .mv (.t 11), none⟩])
    (.cond (.t 10) (.seq (.ops false [⟨some 12, .faddr 1 (.t 1), none⟩, ⟨some 13, .load none (.t 12), none⟩, ⟨some 14, .bin .eql (.t 13) (.c (.int .i64 1)), none⟩, ⟨some 15, .mv (.t 14), none⟩, ⟨some 16, .faddr 1 (.t 1), some (15, false)⟩, ⟨some 17, .load none (.t 16), some (15, false)⟩, ⟨some 18, .bin .eql (.t 17) (.c (.int .i64 2)), some (15, false)⟩, ⟨some 19, .pick (.t 15) (.c (.bool true)) (.t 18), none⟩, ⟨some 2, .mv (.t 19), none⟩])
     (.ret))
     (.seq (.ops false [⟨some 21, .bin .eql (.t 4) (.c (.int .i64 5)), none⟩, ⟨some 20, .mv (.t 21), none⟩])
     (.cond (.t 20) (.seq (.ops false [⟨some 22, .faddr 1 (.t 1), none⟩, ⟨some 23, .load none (.t 22), none⟩, ⟨some 24, .callP 20 [(.t 23), (.c (.int .i64 3)), (.c (.int .i64 16))], none⟩, ⟨some 2, .mv (.t 24), none⟩])
      (.ret))
      (.seq (.ops false [⟨some 26, .bin .eql (.t 4) (.c (.int .i64 10)), none⟩, ⟨some 25, .mv (.t 26), none⟩])
      (.cond (.t 25) (.seq (.ops false [⟨some 27, .faddr 1 (.t 1), none⟩, ⟨some 28, .load none (.t 27), none⟩, ⟨some 29, .bin .eql (.t 28) (.c (.int .i64 0)), none⟩, ⟨some 2, .mv (.t 29), none⟩])
       (.ret))
       (.skip)))))))))))
  (.seq (.ops false [⟨some 30, .faddr 1 (.t 1), none⟩, ⟨some 31, .load none (.t 30), none⟩, ⟨some 32, .callP 20 [(.t 31), (.c (.int .i64 0)), (.c (.int .i64 65535))], none⟩, ⟨some 2, .mv (.t 32), none⟩])
  (.ret))),
  [.t 2]⟩

/- noria/instr.within -/
def d_instr_within : DFun := ⟨
  .seq (.ops false [⟨some 6, .mv (.c (.bool false)), none⟩])
  (.seq (.ops false [⟨some 7, .mv (.t 0), none⟩, ⟨some 8, .mv (.t 1), none⟩, ⟨some 9, .bin .geq (.t 7) (.t 8), none⟩, ⟨some 10, .mv (.t 9), none⟩, ⟨some 11, .mv (.t 0), some (10, true)⟩, ⟨some 12, .mv (.t 2), some (10, true)⟩, ⟨some 13, .bin .leq (.t 11) (.t 12), some (10, true)⟩, ⟨some 14, .pick (.t 10) (.t 13) (.c (.bool false)), none⟩, ⟨some 6, .mv (.t 14), none⟩])
  (.ret)),
  [.t 6]⟩

/- noria/noriaref28.place -/
def d_noriaref28_place : DFun := ⟨
  .seq (.ops false [⟨some 2, .mv (.c (.bool false)), none⟩])
  (.seq (.ops false [⟨some 3, .mv (.t 0), none⟩, ⟨some 4, .bin .geq (.t 3) (.c (.int .i64 0)), none⟩, ⟨some 5, .mv (.t 4), none⟩, ⟨some 6, .mv (.t 0), some (5, true)⟩, ⟨some 7, .bin .leq (.t 6) (.c (.int .i64 65535)), some (5, true)⟩, ⟨some 8, .pick (.t 5) (.t 7) (.c (.bool false)), none⟩, ⟨some 2, .mv (.t 8), none⟩])
  (.ret)),
  [.t 2]⟩

/- strconv.Itoa -/
def d_strconv_Itoa : DFun := ⟨
  .seq (.ops false [⟨some 2, .mv (.c (.str [])), none⟩])
  (.seq (.ops false [⟨some 3, .mv (.t 0), none⟩, ⟨some 4, .callP 40 [(.t 3)], none⟩, ⟨some 2, .mv (.t 4), none⟩])
  (.ret)),
  [.t 2]⟩

/- noria/arith.Sign -/
def d_arith_Sign : DFun := ⟨
  .seq (.ops false [⟨some 2, .mv (.c (.str [])), none⟩])
  (.seq (.seq (.ops false [⟨some 3, .mv (.t 0), none⟩])
  (.block 0 (.seq (.seq (.ops false [⟨some 5, .bin .eql (.t 3) (.c (.int .i64 1)), none⟩, ⟨some 4, .mv (.t 5), none⟩])
   (.cond (.t 4) (.skip)
    (.ops false [⟨some 6, .bin .eql (.t 3) (.c (.int .i64 4)), none⟩, ⟨some 4, .mv (.t 6), none⟩])))
   (.cond (.t 4) (.seq (.ops false [⟨some 2, .mv (.c (.str [45])), none⟩])
    (.ret))
    (.seq (.ops false [⟨some 8, .bin .eql (.t 3) (.c (.int .i64 2)), none⟩, ⟨some 7, .mv (.t 8), none⟩])
    (.cond (.t 7) (.seq (.ops false [⟨some 2, .mv (.c (.str [110, 111, 116])), none⟩])
     (.ret))
     (.seq (.ops false [⟨some 10, .bin .eql (.t 3) (.c (.int .i64 3)), none⟩, ⟨some 9, .mv (.t 10), none⟩])
     (.cond (.t 9) (.seq (.ops false [⟨some 2, .mv (.c (.str [43])), none⟩])
      (.ret))
      (.seq (.ops false [⟨some 12, .bin .eql (.t 3) (.c (.int .i64 5)), none⟩, ⟨some 11, .mv (.t 12), none⟩])
      (.cond (.t 11) (.seq (.ops false [⟨some 2, .mv (.c (.str [42])), none⟩])
       (.ret))
       (.seq (.ops false [⟨some 14, .bin .eql (.t 3) (.c (.int .i64 6)), none⟩, ⟨some 13, .mv (.t 14), none⟩])
       (.cond (.t 13) (.seq (.ops false [⟨some 2, .mv (.c (.str [47])), none⟩])
        (.ret))
        (.seq (.ops false [⟨some 16, .bin .eql (.t 3) (.c (.int .i64 7)), none⟩, ⟨some 15, .mv (.t 16), none⟩])
        (.cond (.t 15) (.seq (.ops false [⟨some 2, .mv (.c (.str [109, 111, 100])), none⟩])
         (.ret))
         (.seq (.ops false [⟨some 18, .bin .eql (.t 3) (.c (.int .i64 8)), none⟩, ⟨some 17, .mv (.t 18), none⟩])
         (.cond (.t 17) (.seq (.ops false [⟨some 2, .mv (.c (.str [97, 110, 100])), none⟩])
          (.ret))
          (.seq (.ops false [⟨some 20, .bin .eql (.t 3) (.c (.int .i64 9)), none⟩, ⟨some 19, .mv (.t 20), none⟩])
          (.cond (.t 19) (.seq (.ops false [⟨some 2, .mv (.c (.str [111, 114])), none⟩])
           (.ret))
           (.seq (.ops false [⟨some 22, .bin .eql (.t 3) (.c (.int .i64 10)), none⟩, ⟨some 21, .mv (.t 22), none⟩])
           (.cond (.t 21) (.seq (.ops false [⟨some 2, .mv (.c (.str [120, 111, 114])), none⟩])
            (.ret))
            (.skip)))))))))))))))))))))
  (.seq (.ops false [⟨some 23, .mv (.t 0), none⟩, ⟨some 24, .callP 41 [(.t 23)], none⟩, ⟨some 2, .mv (.t 24), none⟩])
  (.ret))),
  [.t 2]⟩

/- strconv.FormatInt -/
def d_strconv_FormatInt : DFun := ⟨
  .seq (.ops false [⟨some 4, .mv (.c (.str [])), none⟩])
  (.seq (.ops false [⟨some 5, .mv (.t 0), none⟩, ⟨some 6, .mv (.t 1), none⟩, ⟨some 7, .callP 42 [(.t 5), (.t 6)], none⟩, ⟨some 4, .mv (.t 7), none⟩])
  (.ret)),
  [.t 4]⟩

/- strings.Join -/
def d_strings_Join : DFun := ⟨
  .seq (.ops false [⟨some 4, .mv (.c (.str [])), none⟩])
  (.seq (.seq (.ops false [⟨some 11, .mv (.t 0), none⟩, ⟨some 12, .len (.t 11), none⟩])
  (.block 0 (.seq (.ops false [⟨some 14, .bin .eql (.t 12) (.c (.int .i64 0)), none⟩, ⟨some 13, .mv (.t 14), none⟩])
   (.cond (.t 13) (.seq (.ops false [⟨some 4, .mv (.c (.str [])), none⟩])
    (.ret))
    (.seq (.ops false [⟨some 16, .bin .eql (.t 12) (.c (.int .i64 1)), none⟩, ⟨some 15, .mv (.t 16), none⟩])
    (.cond (.t 15) (.seq (.ops false [⟨some 17, .mv (.t 0), none⟩, ⟨some 18, .iaddr 1 (.t 17) (.c (.int .i64 0)), none⟩, ⟨some 19, .load none (.t 18), none⟩, ⟨some 4, .mv (.t 19), none⟩])
     (.ret))
     (.skip)))))))
  (.seq (.ops false [⟨some 5, .mv (.c (.int .i64 0)), none⟩])
  (.seq (.seq (.ops false [⟨some 20, .mv (.t 1), none⟩, ⟨some 21, .lenS (.t 20), none⟩, ⟨some 22, .bin .gtr (.t 21) (.c (.int .i64 0)), none⟩])
  (.cond (.t 22) (.seq (.seq (.ops false [⟨some 23, .mv (.t 1), none⟩, ⟨some 24, .lenS (.t 23), none⟩, ⟨some 25, .mv (.t 0), none⟩, ⟨some 26, .len (.t 25), none⟩, ⟨some 27, .bin .sub (.t 26) (.c (.int .i64 1)), none⟩, ⟨some 28, .bin .quo (.c (.int .i64 9223372036854775807)) (.t 27), none⟩, ⟨some 29, .bin .geq (.t 24) (.t 28), none⟩])
   (.cond (.t 29) (.ops false [⟨some 30, .bad, none⟩, ⟨none, .bad, none⟩])
    (.skip)))
   (.ops false [⟨some 31, .mv (.t 5), none⟩, ⟨some 32, .mv (.t 1), none⟩, ⟨some 33, .lenS (.t 32), none⟩, ⟨some 34, .mv (.t 0), none⟩, ⟨some 35, .len (.t 34), none⟩, ⟨some 36, .bin .sub (.t 35) (.c (.int .i64 1)), none⟩, ⟨some 37, .bin .mul (.t 33) (.t 36), none⟩, ⟨some 38, .bin .add (.t 31) (.t 37), none⟩, ⟨some 5, .mv (.t 38), none⟩]))
   (.skip)))
  (.seq (.seq (.ops false [⟨some 39, .mv (.t 0), none⟩, ⟨some 40, .len (.t 39), none⟩, ⟨some 41, .mv (.c (.int .i64 0)), none⟩])
  (.block 1 (.loop [0, 1, 5, 39, 40, 41] (some 0) (.seq (.ops false [⟨some 42, .bin .lss (.t 41) (.t 40), none⟩])
    (.seq (.cond (.t 42) (.skip)
     (.exit 1))
    (.seq (.block 2 (.seq (.ops false [⟨some 43, .iaddr 1 (.t 39) (.t 41), none⟩, ⟨some 44, .load none (.t 43), none⟩, ⟨some 7, .mv (.t 44), none⟩])
     (.seq (.seq (.ops false [⟨some 45, .mv (.t 7), none⟩, ⟨some 46, .lenS (.t 45), none⟩, ⟨some 47, .mv (.t 5), none⟩, ⟨some 48, .bin .sub (.c (.int .i64 9223372036854775807)) (.t 47), none⟩, ⟨some 49, .bin .gtr (.t 46) (.t 48), none⟩])
     (.cond (.t 49) (.ops false [⟨some 50, .bad, none⟩, ⟨none, .bad, none⟩])
      (.skip)))
     (.ops false [⟨some 51, .mv (.t 5), none⟩, ⟨some 52, .mv (.t 7), none⟩, ⟨some 53, .lenS (.t 52), none⟩, ⟨some 54, .bin .add (.t 51) (.t 53), none⟩, ⟨some 5, .mv (.t 54), none⟩]))))
    (.ops false [⟨some 55, .bin .add (.t 41) (.c (.int .i64 1)), none⟩, ⟨some 41, .mv (.t 55), none⟩])))))))
  (.seq (.ops false [⟨some 8, .alloc [.nilp, .nil], none⟩])
  (.seq (.ops false [⟨some 56, .mv (.t 5), none⟩, ⟨some 57, .callH 43 [(.t 8), (.t 56)], none⟩])
  (.seq (.ops false [⟨some 58, .mv (.t 0), none⟩, ⟨some 59, .iaddr 1 (.t 58) (.c (.int .i64 0)), none⟩, ⟨some 60, .load none (.t 59), none⟩, ⟨some 61, .callH 44 [(.t 8), (.t 60)], none⟩])
  (.seq (.seq (.ops false [⟨some 62, .mv (.t 0), none⟩, ⟨some 63, .slice 1 (.t 62) (some (.c (.int .i64 1))) none none, none⟩, ⟨some 64, .len (.t 63), none⟩, ⟨some 65, .mv (.c (.int .i64 0)), none⟩])
  (.block 3 (.loop [1, 8, 63, 64, 65] (some 1) (.seq (.ops false [⟨some 66, .bin .lss (.t 65) (.t 64), none⟩])
    (.seq (.cond (.t 66) (.skip)
     (.exit 3))
    (.seq (.block 4 (.seq (.ops false [⟨some 67, .iaddr 1 (.t 63) (.t 65), none⟩, ⟨some 68, .load none (.t 67), none⟩, ⟨some 10, .mv (.t 68), none⟩])
     (.seq (.ops false [⟨some 69, .mv (.t 1), none⟩, ⟨some 70, .callH 44 [(.t 8), (.t 69)], none⟩])
     (.ops false [⟨some 71, .mv (.t 10), none⟩, ⟨some 72, .callH 44 [(.t 8), (.t 71)], none⟩]))))
    (.ops false [⟨some 73, .bin .add (.t 65) (.c (.int .i64 1)), none⟩, ⟨some 65, .mv (.t 73), none⟩])))))))
  (.seq (.ops false [⟨some 74, .callH 45 [(.t 8)], none⟩, ⟨some 4, .mv (.t 74), none⟩])
  (.ret)))))))))),
  [.t 4]⟩

/- noria/noriaref06.Digits -/
def d_noriaref06_Digits : DFun := ⟨
  .seq (.ops false [⟨some 2, .mv (.c (.str [])), none⟩])
  (.seq (.ops false [⟨some 5, .mv (.t 0), none⟩, ⟨some 6, .conv .u64 (.t 5), none⟩, ⟨some 3, .mv (.t 6), none⟩])
  (.seq (.seq (.ops false [⟨some 7, .mv (.t 0), none⟩, ⟨some 8, .bin .lss (.t 7) (.c (.int .i64 0)), none⟩])
  (.cond (.t 8) (.ops false [⟨some 9, .mv (.t 3), none⟩, ⟨some 10, .bin .sub (.c (.int .u64 0)) (.t 9), none⟩, ⟨some 3, .mv (.t 10), none⟩])
   (.skip)))
  (.seq (.ops false [⟨some 4, .mv (.c (.str [])), none⟩])
  (.seq (.block 0 (.loop [0, 3, 4] (some 0) (.seq (.seq (.ops false [⟨some 11, .mv (.t 3), none⟩, ⟨some 12, .bin .gtr (.t 11) (.c (.int .u64 0)), none⟩, ⟨some 13, .mv (.t 12), none⟩, ⟨some 14, .mv (.t 4), some (13, false)⟩, ⟨some 15, .bin .eql (.t 14) (.c (.str [])), some (13, false)⟩, ⟨some 16, .pick (.t 13) (.c (.bool true)) (.t 15), none⟩])
    (.cond (.t 16) (.skip)
     (.exit 0)))
    (.block 1 (.seq (.ops false [⟨some 17, .mv (.t 3), none⟩, ⟨some 18, .bin .rem (.t 17) (.c (.int .u64 10)), none⟩, ⟨some 19, .bin .add (.c (.int .u64 48)) (.t 18), none⟩, ⟨some 20, .conv .u8 (.t 19), none⟩, ⟨some 21, .bslice true [.int .u8 0] [(some (.t 20))], none⟩, ⟨some 22, .b2s (.t 21), none⟩, ⟨some 23, .mv (.t 4), none⟩, ⟨some 24, .bin .add (.t 22) (.t 23), none⟩, ⟨some 4, .mv (.t 24), none⟩])
     (.ops false [⟨some 25, .mv (.t 3), none⟩, ⟨some 26, .bin .quo (.t 25) (.c (.int .u64 10)), none⟩, ⟨some 3, .mv (.t 26), none⟩]))))))
  (.seq (.seq (.ops false [⟨some 27, .mv (.t 0), none⟩, ⟨some 28, .bin .lss (.t 27) (.c (.int .i64 0)), none⟩])
  (.cond (.t 28) (.ops false [⟨some 29, .mv (.t 4), none⟩, ⟨some 30, .bin .add (.c (.str [45])) (.t 29), none⟩, ⟨some 4, .mv (.t 30), none⟩])
   (.skip)))
  (.seq (.ops false [⟨some 31, .mv (.t 4), none⟩, ⟨some 2, .mv (.t 31), none⟩])
  (.ret))))))),
  [.t 2]⟩

/- noria/noriaref07.Sign -/
def d_noriaref07_Sign : DFun := ⟨
  .seq (.ops false [⟨some 2, .mv (.c (.str [])), none⟩])
  (.seq (.ops false [⟨some 4, .bslice true [.str []] [(some (.c (.str []))), (some (.c (.str [45]))), (some (.c (.str [110, 111, 116]))), (some (.c (.str [43]))), (some (.c (.str [45]))), (some (.c (.str [42]))), (some (.c (.str [47]))), (some (.c (.str [109, 111, 100]))), (some (.c (.str [97, 110, 100]))), (some (.c (.str [111, 114]))), (some (.c (.str [120, 111, 114]))), (some (.c (.str [61]))), (some (.c (.str [60, 62]))), (some (.c (.str [60]))), (some (.c (.str [60, 61]))), (some (.c (.str [62]))), (some (.c (.str [62, 61])))], none⟩, ⟨some 3, .mv (.t 4), none⟩])
  (.seq (.seq (.ops false [⟨some 5, .mv (.t 0), none⟩, ⟨some 6, .bin .lss (.t 5) (.c (.int .i64 1)), none⟩, ⟨some 7, .mv (.t 6), none⟩, ⟨some 8, .mv (.t 0), some (7, false)⟩, ⟨some 9, .bin .gtr (.t 8) (.c (.int .i64 16)), some (7, false)⟩, ⟨some 10, .pick (.t 7) (.c (.bool true)) (.t 9), none⟩])
  (.cond (.t 10) (.seq (.ops false [⟨some 2, .mv (.c (.str [])), none⟩])
   (.ret))
   (.skip)))
  (.seq (.ops false [⟨some 11, .mv (.t 3), none⟩, ⟨some 12, .mv (.t 0), none⟩, ⟨some 13, .iaddr 1 (.t 11) (.t 12), none⟩, ⟨some 14, .load none (.t 13), none⟩, ⟨some 2, .mv (.t 14), none⟩])
  (.ret)))),
  [.t 2]⟩

/- noria/reader.New -/
def d_reader_New : DFun := ⟨
  .seq (.ops false [⟨some 0, .mv (.c (.nilp)), none⟩])
  (.seq (.ops false [⟨some 1, .build [.nil, .bool false] [(0, 1, (.c (.nil))), (1, 1, (.c (.bool true)))], none⟩, ⟨some 2, .build [.nil, .bool false] [(0, 2, (.t 1))], none⟩, ⟨some 3, .box (.t 2), none⟩, ⟨some 0, .mv (.t 3), none⟩])
  (.ret)),
  [.t 0]⟩

/- (noria/instr.out).instr -/
def d_instr_out_instr : DFun := ⟨
  .seq (.ops false [⟨some 2, .box (.t 0), none⟩, ⟨some 3, .box (.t 1), none⟩])
  (.seq (.ops false [⟨some 7, .faddr 0 (.t 3), none⟩, ⟨some 8, .load none (.t 7), none⟩, ⟨some 9, .callP 18 [(.t 8)], none⟩, ⟨some 6, .mv (.t 9), none⟩, ⟨some 10, .extract 0 (.t 6), none⟩, ⟨some 11, .extract 1 (.t 6), none⟩, ⟨some 4, .alloc [.str [], .bool false, .bool false, .bool false, .bool false], none⟩, ⟨none, .store 5 (.t 4) (.t 10), none⟩, ⟨some 5, .mv (.t 11), none⟩])
  (.seq (.ops false [⟨some 12, .faddr 0 (.t 2), none⟩, ⟨some 13, .load none (.t 12), none⟩, ⟨some 14, .faddr 0 (.t 3), none⟩, ⟨some 15, .load none (.t 14), none⟩, ⟨some 16, .callH 46 [(.t 13), (.t 15), (.c (.int .i64 1))], none⟩])
  (.seq (.seq (.ops false [⟨some 17, .faddr 1 (.t 4), none⟩, ⟨some 18, .load none (.t 17), none⟩])
  (.cond (.t 18) (.ops false [⟨some 19, .faddr 0 (.t 2), none⟩, ⟨some 20, .load none (.t 19), none⟩, ⟨some 21, .faddr 1 (.t 3), none⟩, ⟨some 22, .load none (.t 21), none⟩, ⟨some 23, .callH 46 [(.t 20), (.t 22), (.c (.int .i64 2))], none⟩])
   (.skip)))
  (.seq (.seq (.ops false [⟨some 24, .faddr 2 (.t 4), none⟩, ⟨some 25, .load none (.t 24), none⟩])
  (.cond (.t 25) (.ops false [⟨some 26, .faddr 0 (.t 2), none⟩, ⟨some 27, .load none (.t 26), none⟩, ⟨some 28, .faddr 1 (.t 3), none⟩, ⟨some 29, .load none (.t 28), none⟩, ⟨some 30, .callH 46 [(.t 27), (.t 29), (.c (.int .i64 1))], none⟩])
   (.skip)))
  (.seq (.seq (.ops false [⟨some 31, .faddr 3 (.t 4), none⟩, ⟨some 32, .load none (.t 31), none⟩])
  (.cond (.t 32) (.ops false [⟨some 33, .faddr 0 (.t 2), none⟩, ⟨some 34, .load none (.t 33), none⟩, ⟨some 35, .faddr 2 (.t 3), none⟩, ⟨some 36, .load none (.t 35), none⟩, ⟨some 37, .callH 46 [(.t 34), (.t 36), (.c (.int .i64 1))], none⟩])
   (.skip)))
  (.seq (.ops false [⟨some 38, .faddr 4 (.t 4), none⟩, ⟨some 39, .load none (.t 38), none⟩])
  (.cond (.t 39) (.ops false [⟨some 40, .faddr 0 (.t 2), none⟩, ⟨some 41, .load none (.t 40), none⟩, ⟨some 42, .faddr 3 (.t 3), none⟩, ⟨some 43, .load none (.t 42), none⟩, ⟨some 44, .callH 47 [(.t 41), (.t 43)], none⟩])
   (.skip)))))))),
  []⟩

/- (*noria/reader.Writer).Bytes -/
def d_reader_Writer_Bytes : DFun := ⟨
  .seq (.ops false [⟨some 2, .mv (.c (.nil)), none⟩])
  (.seq (.seq (.ops false [⟨some 3, .mv (.t 0), none⟩, ⟨some 4, .callH 48 [(.t 3)], none⟩, ⟨some 5, .un .not (.t 4), none⟩])
  (.cond (.t 5) (.seq (.ops false [⟨some 2, .mv (.c (.nil)), none⟩])
   (.ret))
   (.skip)))
  (.seq (.ops false [⟨some 6, .mv (.t 0), none⟩, ⟨some 7, .nilck (.t 6), none⟩, ⟨some 8, .faddr 0 (.t 7), none⟩, ⟨some 9, .faddr 0 (.t 8), none⟩, ⟨some 10, .load none (.t 9), none⟩, ⟨some 11, .callH 49 [(.t 10)], none⟩, ⟨some 2, .mv (.t 11), none⟩])
  (.ret))),
  [.t 2]⟩

/- (*noria/noriaref03.W).Num -/
def d_noriaref03_W_Num : DFun := ⟨
  .seq (.ops false [⟨some 6, .mv (.c (.int .i64 1)), none⟩])
  (.seq (.seq (.ops false [⟨some 7, .mv (.c (.int .i64 0)), none⟩])
  (.block 0 (.loop [0, 1, 2, 6, 7] none (.seq (.seq (.ops false [⟨some 8, .mv (.t 7), none⟩, ⟨some 9, .mv (.t 2), none⟩, ⟨some 10, .bin .lss (.t 8) (.t 9), none⟩, ⟨some 11, .mv (.t 10), none⟩, ⟨some 12, .mv (.t 7), some (11, true)⟩, ⟨some 13, .bin .lss (.t 12) (.c (.int .i64 4)), some (11, true)⟩, ⟨some 14, .pick (.t 11) (.t 13) (.c (.bool false)), none⟩])
    (.cond (.t 14) (.skip)
     (.exit 0)))
    (.seq (.block 1 (.ops false [⟨some 17, .mv (.t 6), none⟩, ⟨some 18, .bin .mul (.t 17) (.c (.int .i64 256)), none⟩, ⟨some 6, .mv (.t 18), none⟩]))
    (.ops false [⟨some 15, .mv (.t 7), none⟩, ⟨some 16, .bin .add (.t 15) (.c (.int .i64 1)), none⟩, ⟨some 7, .mv (.t 16), none⟩]))))))
  (.seq (.seq (.ops false [⟨some 19, .mv (.t 0), none⟩, ⟨some 20, .nilck (.t 19), none⟩, ⟨some 21, .faddr 1 (.t 20), none⟩, ⟨some 22, .load none (.t 21), none⟩, ⟨some 23, .mv (.t 22), none⟩, ⟨some 24, .mv (.t 2), some (23, false)⟩, ⟨some 25, .bin .lss (.t 24) (.c (.int .i64 1)), some (23, false)⟩, ⟨some 26, .pick (.t 23) (.c (.bool true)) (.t 25), none⟩, ⟨some 27, .mv (.t 26), none⟩, ⟨some 28, .mv (.t 2), some (27, false)⟩, ⟨some 29, .bin .gtr (.t 28) (.c (.int .i64 4)), some (27, false)⟩, ⟨some 30, .pick (.t 27) (.c (.bool true)) (.t 29), none⟩, ⟨some 31, .mv (.t 30), none⟩, ⟨some 32, .mv (.t 1), some (31, false)⟩, ⟨some 33, .bin .lss (.t 32) (.c (.int .i64 0)), some (31, false)⟩, ⟨some 34, .pick (.t 31) (.c (.bool true)) (.t 33), none⟩, ⟨some 35, .mv (.t 34), none⟩, ⟨some 36, .mv (.t 1), some (35, false)⟩, ⟨some 37, .mv (.t 6), some (35, false)⟩, ⟨some 38, .bin .geq (.t 36) (.t 37), some (35, false)⟩, ⟨some 39, .pick (.t 35) (.c (.bool true)) (.t 38), none⟩])
  (.cond (.t 39) (.seq (.ops false [⟨some 40, .mv (.t 0), none⟩, ⟨some 41, .nilck (.t 40), none⟩, ⟨some 42, .faddr 1 (.t 41), none⟩, ⟨none, .store 1 (.t 42) (.c (.bool true)), none⟩])
   (.seq (.ops false [⟨some 43, .mv (.t 0), none⟩, ⟨some 44, .nilck (.t 43), none⟩, ⟨some 45, .faddr 0 (.t 44), none⟩, ⟨none, .store 1 (.t 45) (.c (.nil)), none⟩])
   (.ret)))
   (.skip)))
  (.ops true [⟨some 46, .mv (.t 0), none⟩, ⟨some 47, .mv (.t 0), none⟩, ⟨some 48, .nilck (.t 47), none⟩, ⟨some 49, .faddr 0 (.t 48), none⟩, ⟨some 50, .load none (.t 49), none⟩, ⟨some 51, .mv (.t 1), none⟩, ⟨some 52, .conv .u64 (.t 51), none⟩, ⟨some 53, .mv (.t 2), none⟩, ⟨some 54, .callP 50 [(.t 52), (.t 53)], none⟩, ⟨some 55, .append 1 (.t 50) (.t 54), none⟩, ⟨some 56, .nilck (.t 46), none⟩, ⟨some 57, .faddr 0 (.t 56), none⟩, ⟨none, .store 1 (.t 57) (.t 55), none⟩]))),
  []⟩

/- (*noria/noriaref03.W).Int -/
def d_noriaref03_W_Int : DFun := ⟨
  .seq (.ops false [⟨some 5, .mv (.t 1), none⟩, ⟨some 6, .callP 51 [(.t 5)], none⟩, ⟨some 4, .mv (.t 6), none⟩])
  (.seq (.ops false [⟨some 7, .mv (.t 0), none⟩, ⟨some 8, .mv (.t 4), none⟩, ⟨some 9, .len (.t 8), none⟩, ⟨some 10, .callH 31 [(.t 7), (.t 9), (.c (.int .i64 1))], none⟩])
  (.ops false [⟨some 11, .mv (.t 0), none⟩, ⟨some 12, .mv (.t 4), none⟩, ⟨some 13, .callH 52 [(.t 11), (.t 12)], none⟩])),
  []⟩

/- noria/reader.From -/
def d_reader_From : DFun := ⟨
  .seq (.ops false [⟨some 2, .mv (.c (.nilp)), none⟩])
  (.seq (.ops false [⟨some 3, .mv (.t 0), none⟩, ⟨some 4, .callP 49 [(.t 3)], none⟩, ⟨some 5, .build [.nil, .bool false] [(0, 1, (.t 4)), (1, 1, (.c (.bool true)))], none⟩, ⟨some 6, .build [.nil, .bool false, .int .i64 0] [(0, 2, (.t 5))], none⟩, ⟨some 7, .box (.t 6), none⟩, ⟨some 2, .mv (.t 7), none⟩])
  (.ret)),
  [.t 2]⟩

/- (*noria/reader.Reader).More -/
def d_reader_Reader_More : DFun := ⟨
  .seq (.ops false [⟨some 2, .mv (.c (.bool false)), none⟩])
  (.seq (.ops true [⟨some 3, .mv (.t 0), none⟩, ⟨some 4, .rd (.callH 36 [(.t 3)]), none⟩, ⟨some 5, .mv (.t 4), none⟩, ⟨some 6, .mv (.t 0), some (5, true)⟩, ⟨some 7, .nilck (.t 6), some (5, true)⟩, ⟨some 8, .faddr 2 (.t 7), some (5, true)⟩, ⟨some 9, .load none (.t 8), some (5, true)⟩, ⟨some 10, .mv (.t 0), some (5, true)⟩, ⟨some 11, .nilck (.t 10), some (5, true)⟩, ⟨some 12, .faddr 0 (.t 11), some (5, true)⟩, ⟨some 13, .faddr 0 (.t 12), some (5, true)⟩, ⟨some 14, .load none (.t 13), some (5, true)⟩, ⟨some 15, .len (.t 14), some (5, true)⟩, ⟨some 16, .bin .lss (.t 9) (.t 15), some (5, true)⟩, ⟨some 17, .pick (.t 5) (.t 16) (.c (.bool false)), none⟩, ⟨some 2, .mv (.t 17), none⟩])
  (.ret)),
  [.t 2]⟩

/- (noria/instr.in).instr -/
def d_instr_in_instr : DFun := ⟨
  .seq (.ops false [⟨some 1, .box (.t 0), none⟩, ⟨some 2, .alloc [.int .i64 0, .int .i64 0, .int .i64 0, .int .i64 0], none⟩])
  (.seq (.ops false [⟨some 6, .faddr 0 (.t 1), none⟩, ⟨some 7, .load none (.t 6), none⟩, ⟨some 8, .callH 53 [(.t 7), (.c (.int .i64 1))], none⟩, ⟨some 9, .build [.int .i64 0, .int .i64 0, .int .i64 0, .int .i64 0] [(0, 1, (.t 8))], none⟩, ⟨some 3, .alloc [.int .i64 0, .int .i64 0, .int .i64 0, .int .i64 0], none⟩, ⟨none, .store 4 (.t 3) (.t 9), none⟩])
  (.seq (.ops false [⟨some 11, .faddr 0 (.t 3), none⟩, ⟨some 12, .load none (.t 11), none⟩, ⟨some 13, .callP 18 [(.t 12)], none⟩, ⟨some 10, .mv (.t 13), none⟩, ⟨some 14, .extract 0 (.t 10), none⟩, ⟨some 15, .extract 1 (.t 10), none⟩, ⟨some 4, .alloc [.str [], .bool false, .bool false, .bool false, .bool false], none⟩, ⟨none, .store 5 (.t 4) (.t 14), none⟩, ⟨some 5, .mv (.t 15), none⟩])
  (.seq (.seq (.ops false [⟨some 16, .faddr 1 (.t 4), none⟩, ⟨some 17, .load none (.t 16), none⟩])
  (.cond (.t 17) (.ops false [⟨some 18, .faddr 0 (.t 1), none⟩, ⟨some 19, .load none (.t 18), none⟩, ⟨some 20, .callH 53 [(.t 19), (.c (.int .i64 2))], none⟩, ⟨some 21, .faddr 1 (.t 3), none⟩, ⟨none, .store 1 (.t 21) (.t 20), none⟩])
   (.skip)))
  (.seq (.seq (.ops false [⟨some 22, .faddr 2 (.t 4), none⟩, ⟨some 23, .load none (.t 22), none⟩])
  (.cond (.t 23) (.ops false [⟨some 24, .faddr 0 (.t 1), none⟩, ⟨some 25, .load none (.t 24), none⟩, ⟨some 26, .callH 53 [(.t 25), (.c (.int .i64 1))], none⟩, ⟨some 27, .faddr 1 (.t 3), none⟩, ⟨none, .store 1 (.t 27) (.t 26), none⟩])
   (.skip)))
  (.seq (.seq (.ops false [⟨some 28, .faddr 3 (.t 4), none⟩, ⟨some 29, .load none (.t 28), none⟩])
  (.cond (.t 29) (.ops false [⟨some 30, .faddr 0 (.t 1), none⟩, ⟨some 31, .load none (.t 30), none⟩, ⟨some 32, .callH 53 [(.t 31), (.c (.int .i64 1))], none⟩, ⟨some 33, .faddr 2 (.t 3), none⟩, ⟨none, .store 1 (.t 33) (.t 32), none⟩])
   (.skip)))
  (.seq (.seq (.ops false [⟨some 34, .faddr 4 (.t 4), none⟩, ⟨some 35, .load none (.t 34), none⟩])
  (.cond (.t 35) (.ops false [⟨some 36, .faddr 0 (.t 1), none⟩, ⟨some 37, .load none (.t 36), none⟩, ⟨some 38, .callH 54 [(.t 37)], none⟩, ⟨some 39, .faddr 3 (.t 3), none⟩, ⟨none, .store 1 (.t 39) (.t 38), none⟩])
   (.skip)))
  (.seq (.ops false [⟨some 40, .load (some 4) (.t 3), none⟩, ⟨none, .store 4 (.t 2) (.t 40), none⟩])
  (.ret)))))))),
  [.cell 2 (some 4)]⟩

/- (*noria/reader.Reader).Ok -/
def d_reader_Reader_Ok : DFun := ⟨
  .seq (.ops false [⟨some 2, .mv (.c (.bool false)), none⟩])
  (.seq (.ops false [⟨some 3, .mv (.t 0), none⟩, ⟨some 4, .peq true (.t 3) (.c (.nilp)), none⟩, ⟨some 5, .mv (.t 4), none⟩, ⟨some 6, .mv (.t 0), some (5, true)⟩, ⟨some 7, .nilck (.t 6), some (5, true)⟩, ⟨some 8, .faddr 0 (.t 7), some (5, true)⟩, ⟨some 9, .faddr 1 (.t 8), some (5, true)⟩, ⟨some 10, .load none (.t 9), some (5, true)⟩, ⟨some 11, .pick (.t 5) (.t 10) (.c (.bool false)), none⟩, ⟨some 2, .mv (.t 11), none⟩])
  (.ret)),
  [.t 2]⟩

/- noria/noriaref03.From -/
def d_noriaref03_From : DFun := ⟨
  .seq (.ops false [⟨some 2, .mv (.c (.nilp)), none⟩])
  (.seq (.ops false [⟨some 3, .mv (.t 0), none⟩, ⟨some 4, .build [.nil, .int .i64 0, .bool false] [(0, 1, (.t 3))], none⟩, ⟨some 5, .box (.t 4), none⟩, ⟨some 2, .mv (.t 5), none⟩])
  (.ret)),
  [.t 2]⟩

/- (*noria/noriaref03.R).More -/
def d_noriaref03_R_More : DFun := ⟨
  .seq (.ops false [⟨some 2, .mv (.c (.bool false)), none⟩])
  (.seq (.ops true [⟨some 3, .mv (.t 0), none⟩, ⟨some 4, .nilck (.t 3), none⟩, ⟨some 5, .faddr 2 (.t 4), none⟩, ⟨some 6, .load none (.t 5), none⟩, ⟨some 7, .un .not (.t 6), none⟩, ⟨some 8, .mv (.t 7), none⟩, ⟨some 9, .mv (.t 0), some (8, true)⟩, ⟨some 10, .nilck (.t 9), some (8, true)⟩, ⟨some 11, .faddr 1 (.t 10), some (8, true)⟩, ⟨some 12, .load none (.t 11), some (8, true)⟩, ⟨some 13, .mv (.t 0), some (8, true)⟩, ⟨some 14, .nilck (.t 13), some (8, true)⟩, ⟨some 15, .faddr 0 (.t 14), some (8, true)⟩, ⟨some 16, .load none (.t 15), some (8, true)⟩, ⟨some 17, .len (.t 16), some (8, true)⟩, ⟨some 18, .bin .lss (.t 12) (.t 17), some (8, true)⟩, ⟨some 19, .pick (.t 8) (.t 18) (.c (.bool false)), none⟩, ⟨some 2, .mv (.t 19), none⟩])
  (.ret)),
  [.t 2]⟩

/- noria/noriaref28.one -/
def d_noriaref28_one : DFun := ⟨
  .seq (.ops false [⟨some 2, .alloc [.int .i64 0, .int .i64 0, .int .i64 0, .int .i64 0], none⟩])
  (.seq (.ops false [⟨some 4, .mv (.t 0), none⟩, ⟨some 5, .callH 55 [(.t 4), (.c (.int .i64 1))], none⟩, ⟨some 6, .build [.int .i64 0, .int .i64 0, .int .i64 0, .int .i64 0] [(0, 1, (.t 5))], none⟩, ⟨some 3, .alloc [.int .i64 0, .int .i64 0, .int .i64 0, .int .i64 0], none⟩, ⟨none, .store 4 (.t 3) (.t 6), none⟩])
  (.seq (.seq (.ops false [⟨some 7, .faddr 0 (.t 3), none⟩, ⟨some 8, .load none (.t 7), none⟩])
  (.block 0 (.seq (.ops false [⟨some 10, .bin .eql (.t 8) (.c (.int .i64 1)), none⟩, ⟨some 9, .mv (.t 10), none⟩])
   (.cond (.t 9) (.seq (.ops false [⟨some 11, .mv (.t 0), none⟩, ⟨some 12, .callH 55 [(.t 11), (.c (.int .i64 2))], none⟩, ⟨some 13, .faddr 1 (.t 3), none⟩, ⟨none, .store 1 (.t 13) (.t 12), none⟩])
    (.ops false [⟨some 14, .mv (.t 0), none⟩, ⟨some 15, .callH 56 [(.t 14)], none⟩, ⟨some 16, .faddr 3 (.t 3), none⟩, ⟨none, .store 1 (.t 16) (.t 15), none⟩]))
    (.seq (.seq (.ops false [⟨some 18, .bin .eql (.t 8) (.c (.int .i64 2)), none⟩, ⟨some 17, .mv (.t 18), none⟩])
    (.cond (.t 17) (.skip)
     (.seq (.ops false [⟨some 19, .bin .eql (.t 8) (.c (.int .i64 3)), none⟩, ⟨some 17, .mv (.t 19), none⟩])
     (.cond (.t 17) (.skip)
      (.seq (.ops false [⟨some 20, .bin .eql (.t 8) (.c (.int .i64 6)), none⟩, ⟨some 17, .mv (.t 20), none⟩])
      (.cond (.t 17) (.skip)
       (.ops false [⟨some 21, .bin .eql (.t 8) (.c (.int .i64 7)), none⟩, ⟨some 17, .mv (.t 21), none⟩])))))))
    (.cond (.t 17) (.ops false [⟨some 22, .mv (.t 0), none⟩, ⟨some 23, .callH 55 [(.t 22), (.c (.int .i64 2))], none⟩, ⟨some 24, .faddr 1 (.t 3), none⟩, ⟨none, .store 1 (.t 24) (.t 23), none⟩])
     (.seq (.seq (.ops false [⟨some 26, .bin .eql (.t 8) (.c (.int .i64 4)), none⟩, ⟨some 25, .mv (.t 26), none⟩])
     (.cond (.t 25) (.skip)
      (.ops false [⟨some 27, .bin .eql (.t 8) (.c (.int .i64 5)), none⟩, ⟨some 25, .mv (.t 27), none⟩])))
     (.cond (.t 25) (.ops false [⟨some 28, .mv (.t 0), none⟩, ⟨some 29, .callH 55 [(.t 28), (.c (.int .i64 1))], none⟩, ⟨some 30, .faddr 1 (.t 3), none⟩, ⟨none, .store 1 (.t 30) (.t 29), none⟩])
      (.seq (.seq (.ops false [⟨some 32, .bin .eql (.t 8) (.c (.int .i64 8)), none⟩, ⟨some 31, .mv (.t 32), none⟩])
      (.cond (.t 31) (.skip)
       (.ops false [⟨some 33, .bin .eql (.t 8) (.c (.int .i64 9)), none⟩, ⟨some 31, .mv (.t 33), none⟩])))
      (.cond (.t 31) (.seq (.ops false [⟨some 34, .mv (.t 0), none⟩, ⟨some 35, .callH 55 [(.t 34), (.c (.int .i64 2))], none⟩, ⟨some 36, .faddr 1 (.t 3), none⟩, ⟨none, .store 1 (.t 36) (.t 35), none⟩])
       (.ops false [⟨some 37, .mv (.t 0), none⟩, ⟨some 38, .callH 55 [(.t 37), (.c (.int .i64 1))], none⟩, ⟨some 39, .faddr 2 (.t 3), none⟩, ⟨none, .store 1 (.t 39) (.t 38), none⟩]))
       (.skip)))))))))))
  (.seq (.ops false [⟨some 40, .load (some 4) (.t 3), none⟩, ⟨none, .store 4 (.t 2) (.t 40), none⟩])
  (.ret)))),
  [.cell 2 (some 4)]⟩

/- internal/strconv.Itoa -/
def d_internal_strconv_Itoa : DFun := ⟨
  .seq (.ops false [⟨some 2, .mv (.c (.str [])), none⟩])
  (.seq (.ops false [⟨some 3, .mv (.t 0), none⟩, ⟨some 4, .callP 42 [(.t 3), (.c (.int .i64 10))], none⟩, ⟨some 2, .mv (.t 4), none⟩])
  (.ret)),
  [.t 2]⟩

/- noria/arith.compare -/
def d_arith_compare : DFun := ⟨
  .seq (.ops false [⟨some 2, .mv (.c (.str [])), none⟩])
  (.seq (.seq (.ops false [⟨some 3, .mv (.t 0), none⟩])
  (.block 0 (.seq (.ops false [⟨some 5, .bin .eql (.t 3) (.c (.int .i64 11)), none⟩, ⟨some 4, .mv (.t 5), none⟩])
   (.cond (.t 4) (.seq (.ops false [⟨some 2, .mv (.c (.str [61])), none⟩])
    (.ret))
    (.seq (.ops false [⟨some 7, .bin .eql (.t 3) (.c (.int .i64 12)), none⟩, ⟨some 6, .mv (.t 7), none⟩])
    (.cond (.t 6) (.seq (.ops false [⟨some 2, .mv (.c (.str [60, 62])), none⟩])
     (.ret))
     (.seq (.ops false [⟨some 9, .bin .eql (.t 3) (.c (.int .i64 13)), none⟩, ⟨some 8, .mv (.t 9), none⟩])
     (.cond (.t 8) (.seq (.ops false [⟨some 2, .mv (.c (.str [60])), none⟩])
      (.ret))
      (.seq (.ops false [⟨some 11, .bin .eql (.t 3) (.c (.int .i64 14)), none⟩, ⟨some 10, .mv (.t 11), none⟩])
      (.cond (.t 10) (.seq (.ops false [⟨some 2, .mv (.c (.str [60, 61])), none⟩])
       (.ret))
       (.seq (.ops false [⟨some 13, .bin .eql (.t 3) (.c (.int .i64 15)), none⟩, ⟨some 12, .mv (.t 13), none⟩])
       (.cond (.t 12) (.seq (.ops false [⟨some 2, .mv (.c (.str [62])), none⟩])
        (.ret))
        (.seq (.ops false [⟨some 15, .bin .eql (.t 3) (.c (.int .i64 16)), none⟩, ⟨some 14, .mv (.t 15), none⟩])
        (.cond (.t 14) (.seq (.ops false [⟨some 2, .mv (.c (.str [62, 61])), none⟩])
         (.ret))
         (.skip)))))))))))))))
  (.seq (.ops false [⟨some 2, .mv (.c (.str [])), none⟩])
  (.ret))),
  [.t 2]⟩

/- internal/strconv.FormatInt -/
def d_internal_strconv_FormatInt : DFun := ⟨
  .seq (.ops false [⟨some 4, .mv (.c (.str [])), none⟩])
  (.seq (.seq (.ops false [⟨some 10, .mv (.t 1), none⟩, ⟨some 11, .bin .eql (.t 10) (.c (.int .i64 10)), none⟩])
  (.cond (.t 11) (.seq (.seq (.ops false [⟨some 12, .mv (.t 0), none⟩, ⟨some 13, .bin .leq (.c (.int .i64 0)) (.t 12), none⟩, ⟨some 14, .mv (.t 13), none⟩, ⟨some 15, .mv (.t 0), some (14, true)⟩, ⟨some 16, .bin .lss (.t 15) (.c (.int .i64 100)), some (14, true)⟩, ⟨some 17, .pick (.t 14) (.t 16) (.c (.bool false)), none⟩])
   (.cond (.t 17) (.seq (.ops false [⟨some 18, .mv (.t 0), none⟩, ⟨some 19, .callP 57 [(.t 18)], none⟩, ⟨some 4, .mv (.t 19), none⟩])
    (.ret))
    (.skip)))
   (.seq (.ops false [⟨some 5, .alloc [.int .u8 0, .int .u8 0, .int .u8 0, .int .u8 0, .int .u8 0, .int .u8 0, .int .u8 0, .int .u8 0, .int .u8 0, .int .u8 0, .int .u8 0, .int .u8 0, .int .u8 0, .int .u8 0, .int .u8 0, .int .u8 0, .int .u8 0, .int .u8 0, .int .u8 0, .int .u8 0, .int .u8 0, .int .u8 0, .int .u8 0, .int .u8 0], none⟩])
   (.seq (.ops false [⟨some 20, .mv (.t 0), none⟩, ⟨some 21, .conv .u64 (.t 20), none⟩, ⟨some 6, .mv (.t 21), none⟩])
   (.seq (.seq (.ops false [⟨some 22, .mv (.t 0), none⟩, ⟨some 23, .bin .lss (.t 22) (.c (.int .i64 0)), none⟩])
   (.cond (.t 23) (.ops false [⟨some 24, .mv (.t 6), none⟩, ⟨some 25, .un .neg (.t 24), none⟩, ⟨some 6, .mv (.t 25), none⟩])
    (.skip)))
   (.seq (.ops false [⟨some 26, .mv (.t 6), none⟩, ⟨some 27, .callP 58 [(.t 26)], none⟩, ⟨some 7, .mv (.t 27), none⟩])
   (.seq (.ops false [⟨some 28, .mv (.t 7), none⟩, ⟨some 29, .bin .add (.c (.int .i64 1)) (.t 28), none⟩, ⟨some 30, .bad, none⟩, ⟨some 31, .mv (.t 6), none⟩, ⟨some 32, .callP 59 [(.t 30), (.t 31)], none⟩])
   (.seq (.seq (.ops false [⟨some 33, .mv (.t 0), none⟩, ⟨some 34, .bin .lss (.t 33) (.c (.int .i64 0)), none⟩])
   (.cond (.t 34) (.seq (.ops false [⟨some 35, .iaddrA 24 1 (.t 5) (.c (.int .i64 0)), none⟩, ⟨none, .store 1 (.t 35) (.c (.int .u8 45)), none⟩])
    (.seq (.ops false [⟨some 36, .mv (.t 7), none⟩, ⟨some 37, .bin .add (.c (.int .i64 1)) (.t 36), none⟩, ⟨some 38, .bad, none⟩, ⟨some 39, .b2s (.t 38), none⟩, ⟨some 4, .mv (.t 39), none⟩])
    (.ret)))
    (.skip)))
   (.seq (.ops false [⟨some 40, .mv (.t 7), none⟩, ⟨some 41, .bin .add (.c (.int .i64 1)) (.t 40), none⟩, ⟨some 42, .bad, none⟩, ⟨some 43, .b2s (.t 42), none⟩, ⟨some 4, .mv (.t 43), none⟩])
   (.ret)))))))))
   (.skip)))
  (.seq (.ops false [⟨some 45, .mv (.t 0), none⟩, ⟨some 46, .conv .u64 (.t 45), none⟩, ⟨some 47, .mv (.t 1), none⟩, ⟨some 48, .mv (.t 0), none⟩, ⟨some 49, .bin .lss (.t 48) (.c (.int .i64 0)), none⟩, ⟨some 50, .callP 60 [(.c (.nil)), (.t 46), (.t 47), (.t 49), (.c (.bool false))], none⟩, ⟨some 44, .mv (.t 50), none⟩, ⟨some 51, .extract 0 (.t 44), none⟩, ⟨some 52, .extract 1 (.t 44), none⟩, ⟨some 8, .mv (.t 51), none⟩, ⟨some 9, .mv (.t 52), none⟩])
  (.seq (.ops false [⟨some 53, .mv (.t 9), none⟩, ⟨some 4, .mv (.t 53), none⟩])
  (.ret)))),
  [.t 4]⟩

/- (*strings.Builder).Grow -/
def d_strings_Builder_Grow : DFun := ⟨
  .seq (.ops false [⟨some 4, .mv (.t 0), none⟩, ⟨some 5, .callH 61 [(.t 4)], none⟩])
  (.seq (.seq (.ops false [⟨some 6, .mv (.t 1), none⟩, ⟨some 7, .bin .lss (.t 6) (.c (.int .i64 0)), none⟩])
  (.cond (.t 7) (.ops false [⟨some 8, .bad, none⟩, ⟨none, .bad, none⟩])
   (.skip)))
  (.seq (.opsP [(0, ⟨some 9, .mv (.t 0), none⟩), (1, ⟨some 10, .nilck (.t 9), none⟩), (2, ⟨some 11, .faddr 1 (.t 10), none⟩), (3, ⟨some 12, .load none (.t 11), none⟩), (5, ⟨some 14, .mv (.t 0), none⟩), (6, ⟨some 15, .nilck (.t 14), none⟩), (7, ⟨some 16, .faddr 1 (.t 15), none⟩), (8, ⟨some 17, .load none (.t 16), none⟩), (9, ⟨some 18, .len (.t 17), none⟩), (11, ⟨some 20, .mv (.t 1), none⟩), (4, ⟨some 13, .capn (.t 12), none⟩), (10, ⟨some 19, .bin .sub (.t 13) (.t 18), none⟩), (12, ⟨some 21, .bin .lss (.t 19) (.t 20), none⟩)])
  (.cond (.t 21) (.ops false [⟨some 22, .mv (.t 0), none⟩, ⟨some 23, .mv (.t 1), none⟩, ⟨some 24, .callH 62 [(.t 22), (.t 23)], none⟩])
   (.skip)))),
  []⟩

/- (*strings.Builder).WriteString -/
def d_strings_Builder_WriteString : DFun := ⟨
  .seq (.ops false [⟨some 4, .mv (.c (.int .i64 0)), none⟩, ⟨some 5, .mv (.c (.undef)), none⟩])
  (.seq (.ops false [⟨some 6, .mv (.t 0), none⟩, ⟨some 7, .callH 61 [(.t 6)], none⟩])
  (.seq (.ops false [⟨some 8, .mv (.t 0), none⟩, ⟨some 9, .mv (.t 0), none⟩, ⟨some 10, .nilck (.t 9), none⟩, ⟨some 11, .faddr 1 (.t 10), none⟩, ⟨some 12, .load none (.t 11), none⟩, ⟨some 13, .mv (.t 1), none⟩, ⟨some 14, .append 1 (.t 12) (.t 13), none⟩, ⟨some 15, .nilck (.t 8), none⟩, ⟨some 16, .faddr 1 (.t 15), none⟩, ⟨none, .store 1 (.t 16) (.t 14), none⟩])
  (.seq (.ops false [⟨some 17, .mv (.t 1), none⟩, ⟨some 18, .lenS (.t 17), none⟩, ⟨some 4, .mv (.t 18), none⟩, ⟨some 5, .mv (.c (.undef)), none⟩])
  (.ret)))),
  [.t 4, .t 5]⟩

/- (*strings.Builder).String -/
def d_strings_Builder_String : DFun := ⟨
  .seq (.ops false [⟨some 2, .mv (.c (.str [])), none⟩])
  (.seq (.opsP [(0, ⟨some 3, .mv (.t 0), none⟩), (1, ⟨some 4, .nilck (.t 3), none⟩), (2, ⟨some 5, .faddr 1 (.t 4), none⟩), (3, ⟨some 6, .load none (.t 5), none⟩), (5, ⟨some 8, .mv (.t 0), none⟩), (6, ⟨some 9, .nilck (.t 8), none⟩), (7, ⟨some 10, .faddr 1 (.t 9), none⟩), (8, ⟨some 11, .load none (.t 10), none⟩), (9, ⟨some 12, .len (.t 11), none⟩), (4, ⟨some 7, .bad, none⟩), (10, ⟨some 13, .bad, none⟩), (11, ⟨some 2, .mv (.t 13), none⟩)])
  (.ret)),
  [.t 2]⟩

/- (*noria/reader.Writer).Num -/
def d_reader_Writer_Num : DFun := ⟨
  .seq (.seq (.ops false [⟨some 6, .mv (.t 0), none⟩, ⟨some 7, .callH 48 [(.t 6)], none⟩, ⟨some 8, .un .not (.t 7), none⟩])
  (.cond (.t 8) (.ret)
   (.skip)))
  (.seq (.seq (.ops false [⟨some 9, .mv (.t 2), none⟩, ⟨some 10, .bin .lss (.t 9) (.c (.int .i64 1)), none⟩, ⟨some 11, .mv (.t 10), none⟩, ⟨some 12, .mv (.t 2), some (11, false)⟩, ⟨some 13, .bin .gtr (.t 12) (.c (.int .i64 4)), some (11, false)⟩, ⟨some 14, .pick (.t 11) (.c (.bool true)) (.t 13), none⟩, ⟨some 15, .mv (.t 14), none⟩, ⟨some 16, .mv (.t 1), some (15, false)⟩, ⟨some 17, .bin .lss (.t 16) (.c (.int .i64 0)), some (15, false)⟩, ⟨some 18, .pick (.t 15) (.c (.bool true)) (.t 17), none⟩, ⟨some 19, .mv (.t 18), none⟩, ⟨some 20, .mv (.t 1), some (19, false)⟩, ⟨some 21, .mv (.t 2), some (19, false)⟩, ⟨some 22, .bin .mul (.c (.int .i64 8)) (.t 21), some (19, false)⟩, ⟨some 23, .bin .shr (.t 20) (.t 22), some (19, false)⟩, ⟨some 24, .bin .neq (.t 23) (.c (.int .i64 0)), some (19, false)⟩, ⟨some 25, .pick (.t 19) (.c (.bool true)) (.t 24), none⟩])
  (.cond (.t 25) (.seq (.ops false [⟨some 26, .mv (.t 0), none⟩, ⟨some 27, .nilck (.t 26), none⟩, ⟨some 28, .faddr 0 (.t 27), none⟩, ⟨some 29, .callH 63 [(.t 28)], none⟩])
   (.ret))
   (.skip)))
  (.ops false [⟨some 30, .mv (.t 0), none⟩, ⟨some 31, .mv (.t 1), none⟩, ⟨some 32, .conv .u64 (.t 31), none⟩, ⟨some 33, .mv (.t 2), none⟩, ⟨some 34, .callP 65 [(.t 32), (.t 33)], none⟩, ⟨some 35, .callH 64 [(.t 30), (.t 34)], none⟩])),
  []⟩

/- (*noria/reader.Writer).Int -/
def d_reader_Writer_Int : DFun := ⟨
  .seq (.ops false [⟨some 5, .mv (.t 1), none⟩, ⟨some 6, .callP 66 [(.t 5)], none⟩, ⟨some 4, .mv (.t 6), none⟩])
  (.seq (.ops false [⟨some 7, .mv (.t 0), none⟩, ⟨some 8, .mv (.t 4), none⟩, ⟨some 9, .len (.t 8), none⟩, ⟨some 10, .callH 46 [(.t 7), (.t 9), (.c (.int .i64 1))], none⟩])
  (.ops false [⟨some 11, .mv (.t 0), none⟩, ⟨some 12, .mv (.t 4), none⟩, ⟨some 13, .callH 64 [(.t 11), (.t 12)], none⟩])),
  []⟩

/- (*noria/reader.Writer).Ok -/
def d_reader_Writer_Ok : DFun := ⟨
  .seq (.ops false [⟨some 2, .mv (.c (.bool false)), none⟩])
  (.seq (.ops false [⟨some 3, .mv (.t 0), none⟩, ⟨some 4, .peq true (.t 3) (.c (.nilp)), none⟩, ⟨some 5, .mv (.t 4), none⟩, ⟨some 6, .mv (.t 0), some (5, true)⟩, ⟨some 7, .nilck (.t 6), some (5, true)⟩, ⟨some 8, .faddr 0 (.t 7), some (5, true)⟩, ⟨some 9, .faddr 1 (.t 8), some (5, true)⟩, ⟨some 10, .load none (.t 9), some (5, true)⟩, ⟨some 11, .pick (.t 5) (.t 10) (.c (.bool false)), none⟩, ⟨some 2, .mv (.t 11), none⟩])
  (.ret)),
  [.t 2]⟩

/- slices.Clone[[]byte,byte] -/
def d_slices_Clone_byte_byte : DFun := ⟨
  .seq (.ops false [⟨some 2, .mv (.c (.nil)), none⟩])
  (.seq (.seq (.ops false [⟨some 3, .mv (.t 0), none⟩, ⟨some 4, .snil false (.t 3), none⟩])
  (.cond (.t 4) (.seq (.ops false [⟨some 2, .mv (.c (.nil)), none⟩])
   (.ret))
   (.skip)))
  (.seq (.ops false [⟨some 5, .bslice false [.int .u8 0] [], none⟩, ⟨some 6, .mv (.t 0), none⟩, ⟨some 7, .append 1 (.t 5) (.t 6), none⟩, ⟨some 2, .mv (.t 7), none⟩])
  (.ret))),
  [.t 2]⟩

/- noria/noriaref01.Put -/
def d_noriaref01_Put : DFun := ⟨
  .seq (.ops false [⟨some 4, .mv (.c (.nil)), none⟩])
  (.seq (.seq (.ops false [⟨some 7, .mv (.t 1), none⟩, ⟨some 8, .bin .lss (.t 7) (.c (.int .i64 1)), none⟩, ⟨some 9, .mv (.t 8), none⟩, ⟨some 10, .mv (.t 1), some (9, false)⟩, ⟨some 11, .bin .gtr (.t 10) (.c (.int .i64 8)), some (9, false)⟩, ⟨some 12, .pick (.t 9) (.c (.bool true)) (.t 11), none⟩])
  (.cond (.t 12) (.seq (.ops false [⟨some 4, .mv (.c (.nil)), none⟩])
   (.ret))
   (.skip)))
  (.seq (.ops false [⟨some 13, .bslice true [.int .u8 0] [], none⟩, ⟨some 5, .mv (.t 13), none⟩])
  (.seq (.seq (.ops false [⟨some 6, .mv (.c (.int .i64 0)), none⟩])
  (.block 0 (.loop [0, 1, 5, 6] (some 0) (.seq (.seq (.ops false [⟨some 14, .mv (.t 6), none⟩, ⟨some 15, .mv (.t 1), none⟩, ⟨some 16, .bin .lss (.t 14) (.t 15), none⟩])
    (.cond (.t 16) (.skip)
     (.exit 0)))
    (.seq (.block 1 (.seq (.ops false [⟨some 19, .mv (.t 0), none⟩, ⟨some 20, .bin .rem (.t 19) (.c (.int .u64 256)), none⟩, ⟨some 21, .conv .u8 (.t 20), none⟩, ⟨some 22, .bslice false [.int .u8 0] [(some (.t 21))], none⟩, ⟨some 23, .mv (.t 5), none⟩, ⟨some 24, .append 1 (.t 22) (.t 23), none⟩, ⟨some 5, .mvf (.t 24), none⟩])
     (.ops false [⟨some 25, .mv (.t 0), none⟩, ⟨some 26, .bin .quo (.t 25) (.c (.int .u64 256)), none⟩, ⟨some 0, .mv (.t 26), none⟩])))
    (.ops false [⟨some 17, .mv (.t 6), none⟩, ⟨some 18, .bin .add (.t 17) (.c (.int .i64 1)), none⟩, ⟨some 6, .mv (.t 18), none⟩]))))))
  (.seq (.ops false [⟨some 27, .mv (.t 5), none⟩, ⟨some 4, .mv (.t 27), none⟩])
  (.ret))))),
  [.t 4]⟩

/- noria/noriaref01.Int -/
def d_noriaref01_Int : DFun := ⟨
  .seq (.ops false [⟨some 2, .mv (.c (.nil)), none⟩])
  (.seq (.ops false [⟨some 4, .mv (.t 0), none⟩, ⟨some 5, .conv .u64 (.t 4), none⟩, ⟨some 6, .callP 50 [(.t 5), (.c (.int .i64 8))], none⟩, ⟨some 3, .mv (.t 6), none⟩])
  (.seq (.block 0 (.loop [3] (some 0) (.seq (.seq (.ops false [⟨some 7, .mv (.t 3), none⟩, ⟨some 8, .len (.t 7), none⟩, ⟨some 9, .bin .gtr (.t 8) (.c (.int .i64 1)), none⟩, ⟨some 10, .mv (.t 9), none⟩, ⟨some 11, .mv (.t 3), some (10, true)⟩, ⟨some 12, .iaddr 1 (.t 11) (.c (.int .i64 0)), some (10, true)⟩, ⟨some 13, .load none (.t 12), some (10, true)⟩, ⟨some 14, .bin .eql (.t 13) (.c (.int .u8 0)), some (10, true)⟩, ⟨some 15, .mv (.t 14), some (10, true)⟩, ⟨some 16, .mv (.t 3), some (15, true)⟩, ⟨some 17, .iaddr 1 (.t 16) (.c (.int .i64 1)), some (15, true)⟩, ⟨some 18, .load none (.t 17), some (15, true)⟩, ⟨some 19, .bin .lss (.t 18) (.c (.int .u8 128)), some (15, true)⟩, ⟨some 20, .pick (.t 15) (.t 19) (.c (.bool false)), some (10, true)⟩, ⟨some 21, .mv (.t 20), some (10, true)⟩, ⟨some 22, .mv (.t 3), some (21, false)⟩, ⟨some 23, .iaddr 1 (.t 22) (.c (.int .i64 0)), some (21, false)⟩, ⟨some 24, .load none (.t 23), some (21, false)⟩, ⟨some 25, .bin .eql (.t 24) (.c (.int .u8 255)), some (21, false)⟩, ⟨some 26, .mv (.t 25), some (21, false)⟩, ⟨some 27, .mv (.t 3), some (26, true)⟩, ⟨some 28, .iaddr 1 (.t 27) (.c (.int .i64 1)), some (26, true)⟩, ⟨some 29, .load none (.t 28), some (26, true)⟩, ⟨some 30, .bin .geq (.t 29) (.c (.int .u8 128)), some (26, true)⟩, ⟨some 31, .pick (.t 26) (.t 30) (.c (.bool false)), some (21, false)⟩, ⟨some 32, .pick (.t 21) (.c (.bool true)) (.t 31), some (10, true)⟩, ⟨some 33, .pick (.t 10) (.t 32) (.c (.bool false)), none⟩])
    (.cond (.t 33) (.skip)
     (.exit 0)))
    (.block 1 (.ops false [⟨some 34, .mv (.t 3), none⟩, ⟨some 35, .slice 1 (.t 34) (some (.c (.int .i64 1))) none none, none⟩, ⟨some 3, .mv (.t 35), none⟩])))))
  (.seq (.ops false [⟨some 36, .mv (.t 3), none⟩, ⟨some 2, .mv (.t 36), none⟩])
  (.ret)))),
  [.t 2]⟩

/- (*noria/noriaref03.W).bytes -/
def d_noriaref03_W_bytes : DFun := ⟨
  .seq (.ops false [⟨some 4, .mv (.t 0), none⟩, ⟨some 5, .nilck (.t 4), none⟩, ⟨some 6, .faddr 1 (.t 5), none⟩, ⟨some 7, .load none (.t 6), none⟩, ⟨some 8, .un .not (.t 7), none⟩])
  (.cond (.t 8) (.ops false [⟨some 9, .mv (.t 0), none⟩, ⟨some 10, .mv (.t 0), none⟩, ⟨some 11, .nilck (.t 10), none⟩, ⟨some 12, .faddr 0 (.t 11), none⟩, ⟨some 13, .load none (.t 12), none⟩, ⟨some 14, .mv (.t 1), none⟩, ⟨some 15, .append 1 (.t 13) (.t 14), none⟩, ⟨some 16, .nilck (.t 9), none⟩, ⟨some 17, .faddr 0 (.t 16), none⟩, ⟨none, .store 1 (.t 17) (.t 15), none⟩])
   (.skip)),
  []⟩

/- (*noria/reader.Reader).Num -/
def d_reader_Reader_Num : DFun := ⟨
  .seq (.ops false [⟨some 4, .mv (.c (.int .i64 0)), none⟩])
  (.seq (.seq (.ops false [⟨some 5, .mv (.t 1), none⟩, ⟨some 6, .bin .lss (.t 5) (.c (.int .i64 1)), none⟩, ⟨some 7, .mv (.t 6), none⟩, ⟨some 8, .mv (.t 1), some (7, false)⟩, ⟨some 9, .bin .gtr (.t 8) (.c (.int .i64 4)), some (7, false)⟩, ⟨some 10, .pick (.t 7) (.c (.bool true)) (.t 9), none⟩])
  (.cond (.t 10) (.ops false [⟨some 1, .mv (.c (.int .i64 (-1))), none⟩])
   (.skip)))
  (.seq (.ops false [⟨some 11, .mv (.t 0), none⟩, ⟨some 12, .mv (.t 1), none⟩, ⟨some 13, .callH 68 [(.t 11), (.t 12)], none⟩, ⟨some 14, .callP 67 [(.t 13)], none⟩, ⟨some 15, .conv .i64 (.t 14), none⟩, ⟨some 4, .mv (.t 15), none⟩])
  (.ret))),
  [.t 4]⟩

/- (*noria/reader.Reader).Int -/
def d_reader_Reader_Int : DFun := ⟨
  .seq (.ops false [⟨some 2, .mv (.c (.int .i64 0)), none⟩])
  (.seq (.ops false [⟨some 6, .mv (.t 0), none⟩, ⟨some 7, .mv (.t 0), none⟩, ⟨some 8, .callH 53 [(.t 7), (.c (.int .i64 1))], none⟩, ⟨some 9, .callH 68 [(.t 6), (.t 8)], none⟩, ⟨some 3, .mv (.t 9), none⟩])
  (.seq (.seq (.ops false [⟨some 10, .mv (.t 0), none⟩, ⟨some 11, .callH 36 [(.t 10)], none⟩, ⟨some 12, .un .not (.t 11), none⟩])
  (.cond (.t 12) (.seq (.ops false [⟨some 2, .mv (.c (.int .i64 0)), none⟩])
   (.ret))
   (.skip)))
  (.seq (.ops false [⟨some 14, .mv (.t 3), none⟩, ⟨some 15, .callP 69 [(.t 14)], none⟩, ⟨some 13, .mv (.t 15), none⟩, ⟨some 16, .extract 0 (.t 13), none⟩, ⟨some 17, .extract 1 (.t 13), none⟩, ⟨some 4, .mv (.t 16), none⟩, ⟨some 5, .mv (.t 17), none⟩])
  (.seq (.seq (.ops false [⟨some 18, .mv (.t 5), none⟩, ⟨some 19, .un .not (.t 18), none⟩])
  (.cond (.t 19) (.ops false [⟨some 20, .mv (.t 0), none⟩, ⟨some 21, .callH 68 [(.t 20), (.c (.int .i64 (-1)))], none⟩])
   (.skip)))
  (.seq (.ops false [⟨some 22, .mv (.t 4), none⟩, ⟨some 2, .mv (.t 22), none⟩])
  (.ret)))))),
  [.t 2]⟩

/- (*noria/noriaref03.R).Num -/
def d_noriaref03_R_Num : DFun := ⟨
  .seq (.ops false [⟨some 4, .mv (.c (.int .i64 0)), none⟩])
  (.seq (.seq (.ops false [⟨some 5, .mv (.t 1), none⟩, ⟨some 6, .bin .lss (.t 5) (.c (.int .i64 1)), none⟩, ⟨some 7, .mv (.t 6), none⟩, ⟨some 8, .mv (.t 1), some (7, false)⟩, ⟨some 9, .bin .gtr (.t 8) (.c (.int .i64 4)), some (7, false)⟩, ⟨some 10, .pick (.t 7) (.c (.bool true)) (.t 9), none⟩])
  (.cond (.t 10) (.ops false [⟨some 1, .mv (.c (.int .i64 (-1))), none⟩])
   (.skip)))
  (.seq (.ops false [⟨some 11, .mv (.t 0), none⟩, ⟨some 12, .mv (.t 1), none⟩, ⟨some 13, .callH 71 [(.t 11), (.t 12)], none⟩, ⟨some 14, .callP 70 [(.t 13)], none⟩, ⟨some 15, .conv .i64 (.t 14), none⟩, ⟨some 4, .mv (.t 15), none⟩])
  (.ret))),
  [.t 4]⟩

/- (*noria/noriaref03.R).Int -/
def d_noriaref03_R_Int : DFun := ⟨
  .seq (.ops false [⟨some 2, .mv (.c (.int .i64 0)), none⟩])
  (.seq (.ops false [⟨some 7, .mv (.t 0), none⟩, ⟨some 8, .callH 55 [(.t 7), (.c (.int .i64 1))], none⟩, ⟨some 3, .mv (.t 8), none⟩])
  (.seq (.seq (.ops false [⟨some 9, .mv (.t 0), none⟩, ⟨some 10, .nilck (.t 9), none⟩, ⟨some 11, .faddr 2 (.t 10), none⟩, ⟨some 12, .load none (.t 11), none⟩])
  (.cond (.t 12) (.seq (.ops false [⟨some 2, .mv (.c (.int .i64 0)), none⟩])
   (.ret))
   (.skip)))
  (.seq (.ops false [⟨some 13, .mv (.t 0), none⟩, ⟨some 14, .mv (.t 3), none⟩, ⟨some 15, .callH 71 [(.t 13), (.t 14)], none⟩, ⟨some 4, .mv (.t 15), none⟩])
  (.seq (.seq (.ops false [⟨some 16, .mv (.t 0), none⟩, ⟨some 17, .nilck (.t 16), none⟩, ⟨some 18, .faddr 2 (.t 17), none⟩, ⟨some 19, .load none (.t 18), none⟩])
  (.cond (.t 19) (.seq (.ops false [⟨some 2, .mv (.c (.int .i64 0)), none⟩])
   (.ret))
   (.skip)))
  (.seq (.ops false [⟨some 21, .mv (.t 4), none⟩, ⟨some 22, .callP 72 [(.t 21)], none⟩, ⟨some 20, .mv (.t 22), none⟩, ⟨some 23, .extract 0 (.t 20), none⟩, ⟨some 24, .extract 1 (.t 20), none⟩, ⟨some 5, .mv (.t 23), none⟩, ⟨some 6, .mv (.t 24), none⟩])
  (.seq (.seq (.ops false [⟨some 25, .mv (.t 6), none⟩, ⟨some 26, .un .not (.t 25), none⟩])
  (.cond (.t 26) (.seq (.ops false [⟨some 27, .mv (.t 0), none⟩, ⟨some 28, .nilck (.t 27), none⟩, ⟨some 29, .faddr 2 (.t 28), none⟩, ⟨none, .store 1 (.t 29) (.c (.bool true)), none⟩])
   (.ops false [⟨some 30, .mv (.t 0), none⟩, ⟨some 31, .nilck (.t 30), none⟩, ⟨some 32, .faddr 1 (.t 31), none⟩, ⟨none, .store 1 (.t 32) (.c (.int .i64 0)), none⟩]))
   (.skip)))
  (.seq (.ops false [⟨some 33, .mv (.t 5), none⟩, ⟨some 2, .mv (.t 33), none⟩])
  (.ret)))))))),
  [.t 2]⟩

/- internal/strconv.small -/
def d_internal_strconv_small : DFun := ⟨
  .seq (.ops false [⟨some 2, .mv (.c (.str [])), none⟩])
  (.seq (.seq (.ops false [⟨some 3, .mv (.t 0), none⟩, ⟨some 4, .bin .lss (.t 3) (.c (.int .i64 10)), none⟩])
  (.cond (.t 4) (.seq (.ops false [⟨some 5, .mv (.t 0), none⟩, ⟨some 6, .mv (.t 0), none⟩, ⟨some 7, .bin .add (.t 6) (.c (.int .i64 1)), none⟩, ⟨some 8, .sliceS (.c (.str [48, 49, 50, 51, 52, 53, 54, 55, 56, 57, 97, 98, 99, 100, 101, 102, 103, 104, 105, 106, 107, 108, 109, 110, 111, 112, 113, 114, 115, 116, 117, 118, 119, 120, 121, 122])) (some (.t 5)) (some (.t 7)), none⟩, ⟨some 2, .mv (.t 8), none⟩])
   (.ret))
   (.skip)))
  (.seq (.ops false [⟨some 9, .mv (.t 0), none⟩, ⟨some 10, .bin .mul (.t 9) (.c (.int .i64 2)), none⟩, ⟨some 11, .mv (.t 0), none⟩, ⟨some 12, .bin .mul (.t 11) (.c (.int .i64 2)), none⟩, ⟨some 13, .bin .add (.t 12) (.c (.int .i64 2)), none⟩, ⟨some 14, .sliceS (.c (.str [48, 48, 48, 49, 48, 50, 48, 51, 48, 52, 48, 53, 48, 54, 48, 55, 48, 56, 48, 57, 49, 48, 49, 49, 49, 50, 49, 51, 49, 52, 49, 53, 49, 54, 49, 55, 49, 56, 49, 57, 50, 48, 50, 49, 50, 50, 50, 51, 50, 52, 50, 53, 50, 54, 50, 55, 50, 56, 50, 57, 51, 48, 51, 49, 51, 50, 51, 51, 51, 52, 51, 53, 51, 54, 51, 55, 51, 56, 51, 57, 52, 48, 52, 49, 52, 50, 52, 51, 52, 52, 52, 53, 52, 54, 52, 55, 52, 56, 52, 57, 53, 48, 53, 49, 53, 50, 53, 51, 53, 52, 53, 53, 53, 54, 53, 55, 53, 56, 53, 57, 54, 48, 54, 49, 54, 50, 54, 51, 54, 52, 54, 53, 54, 54, 54, 55, 54, 56, 54, 57, 55, 48, 55, 49, 55, 50, 55, 51, 55, 52, 55, 53, 55, 54, 55, 55, 55, 56, 55, 57, 56, 48, 56, 49, 56, 50, 56, 51, 56, 52, 56, 53, 56, 54, 56, 55, 56, 56, 56, 57, 57, 48, 57, 49, 57, 50, 57, 51, 57, 52, 57, 53, 57, 54, 57, 55, 57, 56, 57, 57])) (some (.t 10)) (some (.t 13)), none⟩, ⟨some 2, .mv (.t 14), none⟩])
  (.ret))),
  [.t 2]⟩

/- internal/strconv.numDigits -/
def d_internal_strconv_numDigits : DFun := ⟨
  .seq (.ops false [⟨some 2, .mv (.c (.int .i64 0)), none⟩])
  (.seq (.ops false [⟨some 4, .mv (.t 0), none⟩, ⟨some 5, .callP 74 [(.t 4)], none⟩, ⟨some 6, .callP 73 [(.t 5)], none⟩, ⟨some 3, .mv (.t 6), none⟩])
  (.seq (.ops false [⟨some 7, .mv (.t 3), none⟩, ⟨some 8, .mv (.t 0), none⟩, ⟨some 9, .mv (.t 3), none⟩, ⟨some 10, .bad, none⟩, ⟨some 11, .load none (.t 10), none⟩, ⟨some 12, .bin .geq (.t 8) (.t 11), none⟩, ⟨some 13, .callP 75 [(.t 12)], none⟩, ⟨some 14, .bin .add (.t 7) (.t 13), none⟩, ⟨some 2, .mv (.t 14), none⟩])
  (.ret))),
  [.t 2]⟩

/- internal/strconv.formatBase10 -/
def d_internal_strconv_formatBase10 : DFun := ⟨
  .seq (.ops false [⟨some 17, .mv (.t 0), none⟩, ⟨some 18, .len (.t 17), none⟩, ⟨some 4, .mv (.t 18), none⟩])
  (.seq (.block 0 (.loop [0, 1, 4] (some 0) (.seq (.seq (.ops false [⟨some 19, .mv (.t 4), none⟩, ⟨some 20, .bin .geq (.t 19) (.c (.int .i64 8)), none⟩])
    (.cond (.t 20) (.skip)
     (.exit 0)))
    (.block 1 (.seq (.ops false [⟨some 21, .mv (.t 1), none⟩, ⟨some 22, .bin .rem (.t 21) (.c (.int .u64 100000000)), none⟩, ⟨some 23, .conv .u32 (.t 22), none⟩, ⟨some 5, .mv (.t 23), none⟩])
     (.seq (.ops false [⟨some 24, .mv (.t 1), none⟩, ⟨some 25, .bin .quo (.t 24) (.c (.int .u64 100000000)), none⟩, ⟨some 1, .mv (.t 25), none⟩])
     (.seq (.ops false [⟨some 26, .mv (.t 5), none⟩, ⟨some 27, .bin .quo (.t 26) (.c (.int .u32 10000)), none⟩, ⟨some 28, .mv (.t 5), none⟩, ⟨some 29, .bin .rem (.t 28) (.c (.int .u32 10000)), none⟩, ⟨some 6, .mv (.t 27), none⟩, ⟨some 7, .mv (.t 29), none⟩])
     (.seq (.ops false [⟨some 30, .mv (.t 7), none⟩, ⟨some 31, .bin .quo (.t 30) (.c (.int .u32 100)), none⟩, ⟨some 32, .bin .mul (.t 31) (.c (.int .u32 2)), none⟩, ⟨some 33, .mv (.t 7), none⟩, ⟨some 34, .bin .rem (.t 33) (.c (.int .u32 100)), none⟩, ⟨some 35, .bin .mul (.t 34) (.c (.int .u32 2)), none⟩, ⟨some 8, .mv (.t 32), none⟩, ⟨some 9, .mv (.t 35), none⟩])
     (.seq (.ops false [⟨some 36, .mv (.t 6), none⟩, ⟨some 37, .bin .quo (.t 36) (.c (.int .u32 100)), none⟩, ⟨some 38, .bin .mul (.t 37) (.c (.int .u32 2)), none⟩, ⟨some 39, .mv (.t 6), none⟩, ⟨some 40, .bin .rem (.t 39) (.c (.int .u32 100)), none⟩, ⟨some 41, .bin .mul (.t 40) (.c (.int .u32 2)), none⟩, ⟨some 10, .mv (.t 38), none⟩, ⟨some 11, .mv (.t 41), none⟩])
     (.seq (.ops true [⟨some 42, .mv (.t 0), none⟩, ⟨some 43, .mv (.t 4), none⟩, ⟨some 44, .bin .sub (.t 43) (.c (.int .i64 1)), none⟩, ⟨some 45, .mv (.t 0), none⟩, ⟨some 46, .mv (.t 4), none⟩, ⟨some 47, .bin .sub (.t 46) (.c (.int .i64 2)), none⟩, ⟨some 48, .mv (.t 9), none⟩, ⟨some 49, .bin .add (.t 48) (.c (.int .u32 1)), none⟩, ⟨some 50, .index (.c (.str [48, 48, 48, 49, 48, 50, 48, 51, 48, 52, 48, 53, 48, 54, 48, 55, 48, 56, 48, 57, 49, 48, 49, 49, 49, 50, 49, 51, 49, 52, 49, 53, 49, 54, 49, 55, 49, 56, 49, 57, 50, 48, 50, 49, 50, 50, 50, 51, 50, 52, 50, 53, 50, 54, 50, 55, 50, 56, 50, 57, 51, 48, 51, 49, 51, 50, 51, 51, 51, 52, 51, 53, 51, 54, 51, 55, 51, 56, 51, 57, 52, 48, 52, 49, 52, 50, 52, 51, 52, 52, 52, 53, 52, 54, 52, 55, 52, 56, 52, 57, 53, 48, 53, 49, 53, 50, 53, 51, 53, 52, 53, 53, 53, 54, 53, 55, 53, 56, 53, 57, 54, 48, 54, 49, 54, 50, 54, 51, 54, 52, 54, 53, 54, 54, 54, 55, 54, 56, 54, 57, 55, 48, 55, 49, 55, 50, 55, 51, 55, 52, 55, 53, 55, 54, 55, 55, 55, 56, 55, 57, 56, 48, 56, 49, 56, 50, 56, 51, 56, 52, 56, 53, 56, 54, 56, 55, 56, 56, 56, 57, 57, 48, 57, 49, 57, 50, 57, 51, 57, 52, 57, 53, 57, 54, 57, 55, 57, 56, 57, 57])) (.t 49), none⟩, ⟨some 51, .mv (.t 9), none⟩, ⟨some 52, .index (.c (.str [48, 48, 48, 49, 48, 50, 48, 51, 48, 52, 48, 53, 48, 54, 48, 55, 48, 56, 48, 57, 49, 48, 49, 49, 49, 50, 49, 51, 49, 52, 49, 53, 49, 54, 49, 55, 49, 56, 49, 57, 50, 48, 50, 49, 50, 50, 50, 51, 50, 52, 50, 53, 50, 54, 50, 55, 50, 56, 50, 57, 51, 48, 51, 49, 51, 50, 51, 51, 51, 52, 51, 53, 51, 54, 51, 55, 51, 56, 51, 57, 52, 48, 52, 49, 52, 50, 52, 51, 52, 52, 52, 53, 52, 54, 52, 55, 52, 56, 52, 57, 53, 48, 53, 49, 53, 50, 53, 51, 53, 52, 53, 53, 53, 54, 53, 55, 53, 56, 53, 57, 54, 48, 54, 49, 54, 50, 54, 51, 54, 52, 54, 53, 54, 54, 54, 55, 54, 56, 54, 57, 55, 48, 55, 49, 55, 50, 55, 51, 55, 52, 55, 53, 55, 54, 55, 55, 55, 56, 55, 57, 56, 48, 56, 49, 56, 50, 56, 51, 56, 52, 56, 53, 56, 54, 56, 55, 56, 56, 56, 57, 57, 48, 57, 49, 57, 50, 57, 51, 57, 52, 57, 53, 57, 54, 57, 55, 57, 56, 57, 57])) (.t 51), none⟩, ⟨some 53, .iaddr 1 (.t 42) (.t 44), none⟩, ⟨none, .store 1 (.t 53) (.t 50), none⟩, ⟨some 54, .iaddr 1 (.t 45) (.t 47), none⟩, ⟨none, .store 1 (.t 54) (.t 52), none⟩])
     (.seq (.ops true [⟨some 55, .mv (.t 0), none⟩, ⟨some 56, .mv (.t 4), none⟩, ⟨some 57, .bin .sub (.t 56) (.c (.int .i64 3)), none⟩, ⟨some 58, .mv (.t 0), none⟩, ⟨some 59, .mv (.t 4), none⟩, ⟨some 60, .bin .sub (.t 59) (.c (.int .i64 4)), none⟩, ⟨some 61, .mv (.t 8), none⟩, ⟨some 62, .bin .add (.t 61) (.c (.int .u32 1)), none⟩, ⟨some 63, .index (.c (.str [48, 48, 48, 49, 48, 50, 48, 51, 48, 52, 48, 53, 48, 54, 48, 55, 48, 56, 48, 57, 49, 48, 49, 49, 49, 50, 49, 51, 49, 52, 49, 53, 49, 54, 49, 55, 49, 56, 49, 57, 50, 48, 50, 49, 50, 50, 50, 51, 50, 52, 50, 53, 50, 54, 50, 55, 50, 56, 50, 57, 51, 48, 51, 49, 51, 50, 51, 51, 51, 52, 51, 53, 51, 54, 51, 55, 51, 56, 51, 57, 52, 48, 52, 49, 52, 50, 52, 51, 52, 52, 52, 53, 52, 54, 52, 55, 52, 56, 52, 57, 53, 48, 53, 49, 53, 50, 53, 51, 53, 52, 53, 53, 53, 54, 53, 55, 53, 56, 53, 57, 54, 48, 54, 49, 54, 50, 54, 51, 54, 52, 54, 53, 54, 54, 54, 55, 54, 56, 54, 57, 55, 48, 55, 49, 55, 50, 55, 51, 55, 52, 55, 53, 55, 54, 55, 55, 55, 56, 55, 57, 56, 48, 56, 49, 56, 50, 56, 51, 56, 52, 56, 53, 56, 54, 56, 55, 56, 56, 56, 57, 57, 48, 57, 49, 57, 50, 57, 51, 57, 52, 57, 53, 57, 54, 57, 55, 57, 56, 57, 57])) (.t 62), none⟩, ⟨some 64, .mv (.t 8), none⟩, ⟨some 65, .index (.c (.str [48, 48, 48, 49, 48, 50, 48, 51, 48, 52, 48, 53, 48, 54, 48, 55, 48, 56, 48, 57, 49, 48, 49, 49, 49, 50, 49, 51, 49, 52, 49, 53, 49, 54, 49, 55, 49, 56, 49, 57, 50, 48, 50, 49, 50, 50, 50, 51, 50, 52, 50, 53, 50, 54, 50, 55, 50, 56, 50, 57, 51, 48, 51, 49, 51, 50, 51, 51, 51, 52, 51, 53, 51, 54, 51, 55, 51, 56, 51, 57, 52, 48, 52, 49, 52, 50, 52, 51, 52, 52, 52, 53, 52, 54, 52, 55, 52, 56, 52, 57, 53, 48, 53, 49, 53, 50, 53, 51, 53, 52, 53, 53, 53, 54, 53, 55, 53, 56, 53, 57, 54, 48, 54, 49, 54, 50, 54, 51, 54, 52, 54, 53, 54, 54, 54, 55, 54, 56, 54, 57, 55, 48, 55, 49, 55, 50, 55, 51, 55, 52, 55, 53, 55, 54, 55, 55, 55, 56, 55, 57, 56, 48, 56, 49, 56, 50, 56, 51, 56, 52, 56, 53, 56, 54, 56, 55, 56, 56, 56, 57, 57, 48, 57, 49, 57, 50, 57, 51, 57, 52, 57, 53, 57, 54, 57, 55, 57, 56, 57, 57])) (.t 64), none⟩, ⟨some 66, .iaddr 1 (.t 55) (.t 57), none⟩, ⟨none, .store 1 (.t 66) (.t 63), none⟩, ⟨some 67, .iaddr 1 (.t 58) (.t 60), none⟩, ⟨none, .store 1 (.t 67) (.t 65), none⟩])
     (.seq (.ops true [⟨some 68, .mv (.t 0), none⟩, ⟨some 69, .mv (.t 4), none⟩, ⟨some 70, .bin .sub (.t 69) (.c (.int .i64 5)), none⟩, ⟨some 71, .mv (.t 0), none⟩, ⟨some 72, .mv (.t 4), none⟩, ⟨some 73, .bin .sub (.t 72) (.c (.int .i64 6)), none⟩, ⟨some 74, .mv (.t 11), none⟩, ⟨some 75, .bin .add (.t 74) (.c (.int .u32 1)), none⟩, ⟨some 76, .index (.c (.str [48, 48, 48, 49, 48, 50, 48, 51, 48, 52, 48, 53, 48, 54, 48, 55, 48, 56, 48, 57, 49, 48, 49, 49, 49, 50, 49, 51, 49, 52, 49, 53, 49, 54, 49, 55, 49, 56, 49, 57, 50, 48, 50, 49, 50, 50, 50, 51, 50, 52, 50, 53, 50, 54, 50, 55, 50, 56, 50, 57, 51, 48, 51, 49, 51, 50, 51, 51, 51, 52, 51, 53, 51, 54, 51, 55, 51, 56, 51, 57, 52, 48, 52, 49, 52, 50, 52, 51, 52, 52, 52, 53, 52, 54, 52, 55, 52, 56, 52, 57, 53, 48, 53, 49, 53, 50, 53, 51, 53, 52, 53, 53, 53, 54, 53, 55, 53, 56, 53, 57, 54, 48, 54, 49, 54, 50, 54, 51, 54, 52, 54, 53, 54, 54, 54, 55, 54, 56, 54, 57, 55, 48, 55, 49, 55, 50, 55, 51, 55, 52, 55, 53, 55, 54, 55, 55, 55, 56, 55, 57, 56, 48, 56, 49, 56, 50, 56, 51, 56, 52, 56, 53, 56, 54, 56, 55, 56, 56, 56, 57, 57, 48, 57, 49, 57, 50, 57, 51, 57, 52, 57, 53, 57, 54, 57, 55, 57, 56, 57, 57])) (.t 75), none⟩, ⟨some 77, .mv (.t 11), none⟩, ⟨some 78, .index (.c (.str [48, 48, 48, 49, 48, 50, 48, 51, 48, 52, 48, 53, 48, 54, 48, 55, 48, 56, 48, 57, 49, 48, 49, 49, 49, 50, 49, 51, 49, 52, 49, 53, 49, 54, 49, 55, 49, 56, 49, 57, 50, 48, 50, 49, 50, 50, 50, 51, 50, 52, 50, 53, 50, 54, 50, 55, 50, 56, 50, 57, 51, 48, 51, 49, 51, 50, 51, 51, 51, 52, 51, 53, 51, 54, 51, 55, 51, 56, 51, 57, 52, 48, 52, 49, 52, 50, 52, 51, 52, 52, 52, 53, 52, 54, 52, 55, 52, 56, 52, 57, 53, 48, 53, 49, 53, 50, 53, 51, 53, 52, 53, 53, 53, 54, 53, 55, 53, 56, 53, 57, 54, 48, 54, 49, 54, 50, 54, 51, 54, 52, 54, 53, 54, 54, 54, 55, 54, 56, 54, 57, 55, 48, 55, 49, 55, 50, 55, 51, 55, 52, 55, 53, 55, 54, 55, 55, 55, 56, 55, 57, 56, 48, 56, 49, 56, 50, 56, 51, 56, 52, 56, 53, 56, 54, 56, 55, 56, 56, 56, 57, 57, 48, 57, 49, 57, 50, 57, 51, 57, 52, 57, 53, 57, 54, 57, 55, 57, 56, 57, 57])) (.t 77), none⟩, ⟨some 79, .iaddr 1 (.t 68) (.t 70), none⟩, ⟨none, .store 1 (.t 79) (.t 76), none⟩, ⟨some 80, .iaddr 1 (.t 71) (.t 73), none⟩, ⟨none, .store 1 (.t 80) (.t 78), none⟩])
     (.seq (.ops true [⟨some 81, .mv (.t 0), none⟩, ⟨some 82, .mv (.t 4), none⟩, ⟨some 83, .bin .sub (.t 82) (.c (.int .i64 7)), none⟩, ⟨some 84, .mv (.t 0), none⟩, ⟨some 85, .mv (.t 4), none⟩, ⟨some 86, .bin .sub (.t 85) (.c (.int .i64 8)), none⟩, ⟨some 87, .mv (.t 10), none⟩, ⟨some 88, .bin .add (.t 87) (.c (.int .u32 1)), none⟩, ⟨some 89, .index (.c (.str [48, 48, 48, 49, 48, 50, 48, 51, 48, 52, 48, 53, 48, 54, 48, 55, 48, 56, 48, 57, 49, 48, 49, 49, 49, 50, 49, 51, 49, 52, 49, 53, 49, 54, 49, 55, 49, 56, 49, 57, 50, 48, 50, 49, 50, 50, 50, 51, 50, 52, 50, 53, 50, 54, 50, 55, 50, 56, 50, 57, 51, 48, 51, 49, 51, 50, 51, 51, 51, 52, 51, 53, 51, 54, 51, 55, 51, 56, 51, 57, 52, 48, 52, 49, 52, 50, 52, 51, 52, 52, 52, 53, 52, 54, 52, 55, 52, 56, 52, 57, 53, 48, 53, 49, 53, 50, 53, 51, 53, 52, 53, 53, 53, 54, 53, 55, 53, 56, 53, 57, 54, 48, 54, 49, 54, 50, 54, 51, 54, 52, 54, 53, 54, 54, 54, 55, 54, 56, 54, 57, 55, 48, 55, 49, 55, 50, 55, 51, 55, 52, 55, 53, 55, 54, 55, 55, 55, 56, 55, 57, 56, 48, 56, 49, 56, 50, 56, 51, 56, 52, 56, 53, 56, 54, 56, 55, 56, 56, 56, 57, 57, 48, 57, 49, 57, 50, 57, 51, 57, 52, 57, 53, 57, 54, 57, 55, 57, 56, 57, 57])) (.t 88), none⟩, ⟨some 90, .mv (.t 10), none⟩, ⟨some 91, .index (.c (.str [48, 48, 48, 49, 48, 50, 48, 51, 48, 52, 48, 53, 48, 54, 48, 55, 48, 56, 48, 57, 49, 48, 49, 49, 49, 50, 49, 51, 49, 52, 49, 53, 49, 54, 49, 55, 49, 56, 49, 57, 50, 48, 50, 49, 50, 50, 50, 51, 50, 52, 50, 53, 50, 54, 50, 55, 50, 56, 50, 57, 51, 48, 51, 49, 51, 50, 51, 51, 51, 52, 51, 53, 51, 54, 51, 55, 51, 56, 51, 57, 52, 48, 52, 49, 52, 50, 52, 51, 52, 52, 52, 53, 52, 54, 52, 55, 52, 56, 52, 57, 53, 48, 53, 49, 53, 50, 53, 51, 53, 52, 53, 53, 53, 54, 53, 55, 53, 56, 53, 57, 54, 48, 54, 49, 54, 50, 54, 51, 54, 52, 54, 53, 54, 54, 54, 55, 54, 56, 54, 57, 55, 48, 55, 49, 55, 50, 55, 51, 55, 52, 55, 53, 55, 54, 55, 55, 55, 56, 55, 57, 56, 48, 56, 49, 56, 50, 56, 51, 56, 52, 56, 53, 56, 54, 56, 55, 56, 56, 56, 57, 57, 48, 57, 49, 57, 50, 57, 51, 57, 52, 57, 53, 57, 54, 57, 55, 57, 56, 57, 57])) (.t 90), none⟩, ⟨some 92, .iaddr 1 (.t 81) (.t 83), none⟩, ⟨none, .store 1 (.t 92) (.t 89), none⟩, ⟨some 93, .iaddr 1 (.t 84) (.t 86), none⟩, ⟨none, .store 1 (.t 93) (.t 91), none⟩])
     (.ops false [⟨some 94, .mv (.t 4), none⟩, ⟨some 95, .bin .sub (.t 94) (.c (.int .i64 8)), none⟩, ⟨some 4, .mv (.t 95), none⟩]))))))))))))))
  (.seq (.ops false [⟨some 96, .mv (.t 1), none⟩, ⟨some 97, .conv .u32 (.t 96), none⟩, ⟨some 12, .mv (.t 97), none⟩])
  (.seq (.seq (.ops false [⟨some 98, .mv (.t 4), none⟩, ⟨some 99, .bin .geq (.t 98) (.c (.int .i64 4)), none⟩])
  (.cond (.t 99) (.seq (.ops false [⟨some 100, .mv (.t 12), none⟩, ⟨some 101, .bin .rem (.t 100) (.c (.int .u32 10000)), none⟩, ⟨some 13, .mv (.t 101), none⟩])
   (.seq (.ops false [⟨some 102, .mv (.t 12), none⟩, ⟨some 103, .bin .quo (.t 102) (.c (.int .u32 10000)), none⟩, ⟨some 12, .mv (.t 103), none⟩])
   (.seq (.ops false [⟨some 104, .mv (.t 13), none⟩, ⟨some 105, .bin .quo (.t 104) (.c (.int .u32 100)), none⟩, ⟨some 106, .bin .mul (.t 105) (.c (.int .u32 2)), none⟩, ⟨some 107, .mv (.t 13), none⟩, ⟨some 108, .bin .rem (.t 107) (.c (.int .u32 100)), none⟩, ⟨some 109, .bin .mul (.t 108) (.c (.int .u32 2)), none⟩, ⟨some 14, .mv (.t 106), none⟩, ⟨some 15, .mv (.t 109), none⟩])
   (.seq (.ops true [⟨some 110, .mv (.t 0), none⟩, ⟨some 111, .mv (.t 4), none⟩, ⟨some 112, .bin .sub (.t 111) (.c (.int .i64 1)), none⟩, ⟨some 113, .mv (.t 0), none⟩, ⟨some 114, .mv (.t 4), none⟩, ⟨some 115, .bin .sub (.t 114) (.c (.int .i64 2)), none⟩, ⟨some 116, .mv (.t 15), none⟩, ⟨some 117, .bin .add (.t 116) (.c (.int .u32 1)), none⟩, ⟨some 118, .index (.c (.str [48, 48, 48, 49, 48, 50, 48, 51, 48, 52, 48, 53, 48, 54, 48, 55, 48, 56, 48, 57, 49, 48, 49, 49, 49, 50, 49, 51, 49, 52, 49, 53, 49, 54, 49, 55, 49, 56, 49, 57, 50, 48, 50, 49, 50, 50, 50, 51, 50, 52, 50, 53, 50, 54, 50, 55, 50, 56, 50, 57, 51, 48, 51, 49, 51, 50, 51, 51, 51, 52, 51, 53, 51, 54, 51, 55, 51, 56, 51, 57, 52, 48, 52, 49, 52, 50, 52, 51, 52, 52, 52, 53, 52, 54, 52, 55, 52, 56, 52, 57, 53, 48, 53, 49, 53, 50, 53, 51, 53, 52, 53, 53, 53, 54, 53, 55, 53, 56, 53, 57, 54, 48, 54, 49, 54, 50, 54, 51, 54, 52, 54, 53, 54, 54, 54, 55, 54, 56, 54, 57, 55, 48, 55, 49, 55, 50, 55, 51, 55, 52, 55, 53, 55, 54, 55, 55, 55, 56, 55, 57, 56, 48, 56, 49, 56, 50, 56, 51, 56, 52, 56, 53, 56, 54, 56, 55, 56, 56, 56, 57, 57, 48, 57, 49, 57, 50, 57, 51, 57, 52, 57, 53, 57, 54, 57, 55, 57, 56, 57, 57])) (.t 117), none⟩, ⟨some 119, .mv (.t 15), none⟩, ⟨some 120, .index (.c (.str [48, 48, 48, 49, 48, 50, 48, 51, 48, 52, 48, 53, 48, 54, 48, 55, 48, 56, 48, 57, 49, 48, 49, 49, 49, 50, 49, 51, 49, 52, 49, 53, 49, 54, 49, 55, 49, 56, 49, 57, 50, 48, 50, 49, 50, 50, 50, 51, 50, 52, 50, 53, 50, 54, 50, 55, 50, 56, 50, 57, 51, 48, 51, 49, 51, 50, 51, 51, 51, 52, 51, 53, 51, 54, 51, 55, 51, 56, 51, 57, 52, 48, 52, 49, 52, 50, 52, 51, 52, 52, 52, 53, 52, 54, 52, 55, 52, 56, 52, 57, 53, 48, 53, 49, 53, 50, 53, 51, 53, 52, 53, 53, 53, 54, 53, 55, 53, 56, 53, 57, 54, 48, 54, 49, 54, 50, 54, 51, 54, 52, 54, 53, 54, 54, 54, 55, 54, 56, 54, 57, 55, 48, 55, 49, 55, 50, 55, 51, 55, 52, 55, 53, 55, 54, 55, 55, 55, 56, 55, 57, 56, 48, 56, 49, 56, 50, 56, 51, 56, 52, 56, 53, 56, 54, 56, 55, 56, 56, 56, 57, 57, 48, 57, 49, 57, 50, 57, 51, 57, 52, 57, 53, 57, 54, 57, 55, 57, 56, 57, 57])) (.t 119), none⟩, ⟨some 121, .iaddr 1 (.t 110) (.t 112), none⟩, ⟨none, .store 1 (.t 121) (.t 118), none⟩, ⟨some 122, .iaddr 1 (.t 113) (.t 115), none⟩, ⟨none, .store 1 (.t 122) (.t 120), none⟩])
   (.seq (.ops true [⟨some 123, .mv (.t 0), none⟩, ⟨some 124, .mv (.t 4), none⟩, ⟨some 125, .bin .sub (.t 124) (.c (.int .i64 3)), none⟩, ⟨some 126, .mv (.t 0), none⟩, ⟨some 127, .mv (.t 4), none⟩, ⟨some 128, .bin .sub (.t 127) (.c (.int .i64 4)), none⟩, ⟨some 129, .mv (.t 14), none⟩, ⟨some 130, .bin .add (.t 129) (.c (.int .u32 1)), none⟩, ⟨some 131, .index (.c (.str [48, 48, 48, 49, 48, 50, 48, 51, 48, 52, 48, 53, 48, 54, 48, 55, 48, 56, 48, 57, 49, 48, 49, 49, 49, 50, 49, 51, 49, 52, 49, 53, 49, 54, 49, 55, 49, 56, 49, 57, 50, 48, 50, 49, 50, 50, 50, 51, 50, 52, 50, 53, 50, 54, 50, 55, 50, 56, 50, 57, 51, 48, 51, 49, 51, 50, 51, 51, 51, 52, 51, 53, 51, 54, 51, 55, 51, 56, 51, 57, 52, 48, 52, 49, 52, 50, 52, 51, 52, 52, 52, 53, 52, 54, 52, 55, 52, 56, 52, 57, 53, 48, 53, 49, 53, 50, 53, 51, 53, 52, 53, 53, 53, 54, 53, 55, 53, 56, 53, 57, 54, 48, 54, 49, 54, 50, 54, 51, 54, 52, 54, 53, 54, 54, 54, 55, 54, 56, 54, 57, 55, 48, 55, 49, 55, 50, 55, 51, 55, 52, 55, 53, 55, 54, 55, 55, 55, 56, 55, 57, 56, 48, 56, 49, 56, 50, 56, 51, 56, 52, 56, 53, 56, 54, 56, 55, 56, 56, 56, 57, 57, 48, 57, 49, 57, 50, 57, 51, 57, 52, 57, 53, 57, 54, 57, 55, 57, 56, 57, 57])) (.t 130), none⟩, ⟨some 132, .mv (.t 14), none⟩, ⟨some 133, .index (.c (.str [48, 48, 48, 49, 48, 50, 48, 51, 48, 52, 48, 53, 48, 54, 48, 55, 48, 56, 48, 57, 49, 48, 49, 49, 49, 50, 49, 51, 49, 52, 49, 53, 49, 54, 49, 55, 49, 56, 49, 57, 50, 48, 50, 49, 50, 50, 50, 51, 50, 52, 50, 53, 50, 54, 50, 55, 50, 56, 50, 57, 51, 48, 51, 49, 51, 50, 51, 51, 51, 52, 51, 53, 51, 54, 51, 55, 51, 56, 51, 57, 52, 48, 52, 49, 52, 50, 52, 51, 52, 52, 52, 53, 52, 54, 52, 55, 52, 56, 52, 57, 53, 48, 53, 49, 53, 50, 53, 51, 53, 52, 53, 53, 53, 54, 53, 55, 53, 56, 53, 57, 54, 48, 54, 49, 54, 50, 54, 51, 54, 52, 54, 53, 54, 54, 54, 55, 54, 56, 54, 57, 55, 48, 55, 49, 55, 50, 55, 51, 55, 52, 55, 53, 55, 54, 55, 55, 55, 56, 55, 57, 56, 48, 56, 49, 56, 50, 56, 51, 56, 52, 56, 53, 56, 54, 56, 55, 56, 56, 56, 57, 57, 48, 57, 49, 57, 50, 57, 51, 57, 52, 57, 53, 57, 54, 57, 55, 57, 56, 57, 57])) (.t 132), none⟩, ⟨some 134, .iaddr 1 (.t 123) (.t 125), none⟩, ⟨none, .store 1 (.t 134) (.t 131), none⟩, ⟨some 135, .iaddr 1 (.t 126) (.t 128), none⟩, ⟨none, .store 1 (.t 135) (.t 133), none⟩])
   (.ops false [⟨some 136, .mv (.t 4), none⟩, ⟨some 137, .bin .sub (.t 136) (.c (.int .i64 4)), none⟩, ⟨some 4, .mv (.t 137), none⟩]))))))
   (.skip)))
  (.seq (.seq (.ops false [⟨some 138, .mv (.t 4), none⟩, ⟨some 139, .bin .geq (.t 138) (.c (.int .i64 2)), none⟩])
  (.cond (.t 139) (.seq (.ops false [⟨some 140, .mv (.t 12), none⟩, ⟨some 141, .bin .rem (.t 140) (.c (.int .u32 100)), none⟩, ⟨some 142, .bin .mul (.t 141) (.c (.int .u32 2)), none⟩, ⟨some 16, .mv (.t 142), none⟩])
   (.seq (.ops false [⟨some 143, .mv (.t 12), none⟩, ⟨some 144, .bin .quo (.t 143) (.c (.int .u32 100)), none⟩, ⟨some 12, .mv (.t 144), none⟩])
   (.seq (.ops true [⟨some 145, .mv (.t 0), none⟩, ⟨some 146, .mv (.t 4), none⟩, ⟨some 147, .bin .sub (.t 146) (.c (.int .i64 1)), none⟩, ⟨some 148, .mv (.t 0), none⟩, ⟨some 149, .mv (.t 4), none⟩, ⟨some 150, .bin .sub (.t 149) (.c (.int .i64 2)), none⟩, ⟨some 151, .mv (.t 16), none⟩, ⟨some 152, .bin .add (.t 151) (.c (.int .u32 1)), none⟩, ⟨some 153, .index (.c (.str [48, 48, 48, 49, 48, 50, 48, 51, 48, 52, 48, 53, 48, 54, 48, 55, 48, 56, 48, 57, 49, 48, 49, 49, 49, 50, 49, 51, 49, 52, 49, 53, 49, 54, 49, 55, 49, 56, 49, 57, 50, 48, 50, 49, 50, 50, 50, 51, 50, 52, 50, 53, 50, 54, 50, 55, 50, 56, 50, 57, 51, 48, 51, 49, 51, 50, 51, 51, 51, 52, 51, 53, 51, 54, 51, 55, 51, 56, 51, 57, 52, 48, 52, 49, 52, 50, 52, 51, 52, 52, 52, 53, 52, 54, 52, 55, 52, 56, 52, 57, 53, 48, 53, 49, 53, 50, 53, 51, 53, 52, 53, 53, 53, 54, 53, 55, 53, 56, 53, 57, 54, 48, 54, 49, 54, 50, 54, 51, 54, 52, 54, 53, 54, 54, 54, 55, 54, 56, 54, 57, 55, 48, 55, 49, 55, 50, 55, 51, 55, 52, 55, 53, 55, 54, 55, 55, 55, 56, 55, 57, 56, 48, 56, 49, 56, 50, 56, 51, 56, 52, 56, 53, 56, 54, 56, 55, 56, 56, 56, 57, 57, 48, 57, 49, 57, 50, 57, 51, 57, 52, 57, 53, 57, 54, 57, 55, 57, 56, 57, 57])) (.t 152), none⟩, ⟨some 154, .mv (.t 16), none⟩, ⟨some 155, .index (.c (.str [48, 48, 48, 49, 48, 50, 48, 51, 48, 52, 48, 53, 48, 54, 48, 55, 48, 56, 48, 57, 49, 48, 49, 49, 49, 50, 49, 51, 49, 52, 49, 53, 49, 54, 49, 55, 49, 56, 49, 57, 50, 48, 50, 49, 50, 50, 50, 51, 50, 52, 50, 53, 50, 54, 50, 55, 50, 56, 50, 57, 51, 48, 51, 49, 51, 50, 51, 51, 51, 52, 51, 53, 51, 54, 51, 55, 51, 56, 51, 57, 52, 48, 52, 49, 52, 50, 52, 51, 52, 52, 52, 53, 52, 54, 52, 55, 52, 56, 52, 57, 53, 48, 53, 49, 53, 50, 53, 51, 53, 52, 53, 53, 53, 54, 53, 55, 53, 56, 53, 57, 54, 48, 54, 49, 54, 50, 54, 51, 54, 52, 54, 53, 54, 54, 54, 55, 54, 56, 54, 57, 55, 48, 55, 49, 55, 50, 55, 51, 55, 52, 55, 53, 55, 54, 55, 55, 55, 56, 55, 57, 56, 48, 56, 49, 56, 50, 56, 51, 56, 52, 56, 53, 56, 54, 56, 55, 56, 56, 56, 57, 57, 48, 57, 49, 57, 50, 57, 51, 57, 52, 57, 53, 57, 54, 57, 55, 57, 56, 57, 57])) (.t 154), none⟩, ⟨some 156, .iaddr 1 (.t 145) (.t 147), none⟩, ⟨none, .store 1 (.t 156) (.t 153), none⟩, ⟨some 157, .iaddr 1 (.t 148) (.t 150), none⟩, ⟨none, .store 1 (.t 157) (.t 155), none⟩])
   (.ops false [⟨some 158, .mv (.t 4), none⟩, ⟨some 159, .bin .sub (.t 158) (.c (.int .i64 2)), none⟩, ⟨some 4, .mv (.t 159), none⟩]))))
   (.skip)))
  (.seq (.ops false [⟨some 160, .mv (.t 4), none⟩, ⟨some 161, .bin .gtr (.t 160) (.c (.int .i64 0)), none⟩])
  (.cond (.t 161) (.ops false [⟨some 162, .mv (.t 0), none⟩, ⟨some 163, .mv (.t 12), none⟩, ⟨some 164, .bin .add (.c (.int .u32 48)) (.t 163), none⟩, ⟨some 165, .conv .u8 (.t 164), none⟩, ⟨some 166, .iaddr 1 (.t 162) (.c (.int .i64 0)), none⟩, ⟨none, .store 1 (.t 166) (.t 165), none⟩])
   (.skip))))))),
  []⟩

/- internal/strconv.formatBits -/
def d_internal_strconv_formatBits : DFun := ⟨
  .seq (.ops false [⟨some 10, .mv (.c (.nil)), none⟩, ⟨some 11, .mv (.c (.str [])), none⟩])
  (.seq (.seq (.ops false [⟨some 19, .mv (.t 2), none⟩, ⟨some 20, .bin .lss (.t 19) (.c (.int .i64 2)), none⟩, ⟨some 21, .mv (.t 20), none⟩, ⟨some 22, .mv (.t 2), some (21, false)⟩, ⟨some 23, .bin .eql (.t 22) (.c (.int .i64 10)), some (21, false)⟩, ⟨some 24, .pick (.t 21) (.c (.bool true)) (.t 23), none⟩, ⟨some 25, .mv (.t 24), none⟩, ⟨some 26, .mv (.t 2), some (25, false)⟩, ⟨some 27, .bin .gtr (.t 26) (.c (.int .i64 36)), some (25, false)⟩, ⟨some 28, .pick (.t 25) (.c (.bool true)) (.t 27), none⟩])
  (.cond (.t 28) (.ops false [⟨some 29, .bad, none⟩, ⟨none, .bad, none⟩])
   (.skip)))
  (.seq (.ops false [⟨some 12, .alloc [.int .u8 0, .int .u8 0, .int .u8 0, .int .u8 0, .int .u8 0, .int .u8 0, .int .u8 0, .int .u8 0, .int .u8 0, .int .u8 0, .int .u8 0, .int .u8 0, .int .u8 0, .int .u8 0, .int .u8 0, .int .u8 0, .int .u8 0, .int .u8 0, .int .u8 0, .int .u8 0, .int .u8 0, .int .u8 0, .int .u8 0, .int .u8 0, .int .u8 0, .int .u8 0, .int .u8 0, .int .u8 0, .int .u8 0, .int .u8 0, .int .u8 0, .int .u8 0, .int .u8 0, .int .u8 0, .int .u8 0, .int .u8 0, .int .u8 0, .int .u8 0, .int .u8 0, .int .u8 0, .int .u8 0, .int .u8 0, .int .u8 0, .int .u8 0, .int .u8 0, .int .u8 0, .int .u8 0, .int .u8 0, .int .u8 0, .int .u8 0, .int .u8 0, .int .u8 0, .int .u8 0, .int .u8 0, .int .u8 0, .int .u8 0, .int .u8 0, .int .u8 0, .int .u8 0, .int .u8 0, .int .u8 0, .int .u8 0, .int .u8 0, .int .u8 0, .int .u8 0], none⟩])
  (.seq (.ops false [⟨some 13, .mv (.c (.int .i64 65)), none⟩])
  (.seq (.seq (.ops false [⟨some 30, .mv (.t 3), none⟩])
  (.cond (.t 30) (.ops false [⟨some 31, .mv (.t 1), none⟩, ⟨some 32, .un .neg (.t 31), none⟩, ⟨some 1, .mv (.t 32), none⟩])
   (.skip)))
  (.seq (.seq (.ops false [⟨some 33, .mv (.t 2), none⟩, ⟨some 34, .callP 76 [(.t 33)], none⟩])
  (.cond (.t 34) (.seq (.ops false [⟨some 35, .mv (.t 2), none⟩, ⟨some 36, .conv .u64 (.t 35), none⟩, ⟨some 37, .callP 77 [(.t 36)], none⟩, ⟨some 38, .conv .u64 (.t 37), none⟩, ⟨some 14, .mv (.t 38), none⟩])
   (.seq (.ops false [⟨some 39, .mv (.t 2), none⟩, ⟨some 40, .conv .u64 (.t 39), none⟩, ⟨some 15, .mv (.t 40), none⟩])
   (.seq (.ops false [⟨some 41, .mv (.t 2), none⟩, ⟨some 42, .conv .u64 (.t 41), none⟩, ⟨some 43, .bin .sub (.t 42) (.c (.int .u64 1)), none⟩, ⟨some 16, .mv (.t 43), none⟩])
   (.seq (.block 0 (.loop [0, 1, 3, 4, 10, 11, 12, 13, 14, 15, 16] (some 1) (.seq (.seq (.ops false [⟨some 44, .mv (.t 1), none⟩, ⟨some 45, .mv (.t 15), none⟩, ⟨some 46, .bin .geq (.t 44) (.t 45), none⟩])
     (.cond (.t 46) (.skip)
      (.exit 0)))
     (.block 1 (.seq (.ops false [⟨some 47, .mv (.t 13), none⟩, ⟨some 48, .bin .sub (.t 47) (.c (.int .i64 1)), none⟩, ⟨some 13, .mv (.t 48), none⟩])
      (.seq (.ops false [⟨some 49, .mv (.t 13), none⟩, ⟨some 50, .mv (.t 1), none⟩, ⟨some 51, .mv (.t 16), none⟩, ⟨some 52, .bin .and (.t 50) (.t 51), none⟩, ⟨some 53, .index (.c (.str [48, 49, 50, 51, 52, 53, 54, 55, 56, 57, 97, 98, 99, 100, 101, 102, 103, 104, 105, 106, 107, 108, 109, 110, 111, 112, 113, 114, 115, 116, 117, 118, 119, 120, 121, 122])) (.t 52), none⟩, ⟨some 54, .iaddrA 65 1 (.t 12) (.t 49), none⟩, ⟨none, .store 1 (.t 54) (.t 53), none⟩])
      (.ops false [⟨some 55, .mv (.t 1), none⟩, ⟨some 56, .mv (.t 14), none⟩, ⟨some 57, .bin .shr (.t 55) (.t 56), none⟩, ⟨some 1, .mv (.t 57), none⟩])))))))
   (.seq (.ops false [⟨some 58, .mv (.t 13), none⟩, ⟨some 59, .bin .sub (.t 58) (.c (.int .i64 1)), none⟩, ⟨some 13, .mv (.t 59), none⟩])
   (.ops false [⟨some 60, .mv (.t 13), none⟩, ⟨some 61, .mv (.t 1), none⟩, ⟨some 62, .index (.c (.str [48, 49, 50, 51, 52, 53, 54, 55, 56, 57, 97, 98, 99, 100, 101, 102, 103, 104, 105, 106, 107, 108, 109, 110, 111, 112, 113, 114, 115, 116, 117, 118, 119, 120, 121, 122])) (.t 61), none⟩, ⟨some 63, .iaddrA 65 1 (.t 12) (.t 60), none⟩, ⟨none, .store 1 (.t 63) (.t 62), none⟩]))))))
   (.seq (.ops false [⟨some 64, .mv (.t 2), none⟩, ⟨some 65, .conv .u64 (.t 64), none⟩, ⟨some 17, .mv (.t 65), none⟩])
   (.seq (.block 2 (.loop [0, 1, 3, 4, 10, 11, 12, 13, 17] (some 1) (.seq (.seq (.ops false [⟨some 66, .mv (.t 1), none⟩, ⟨some 67, .mv (.t 17), none⟩, ⟨some 68, .bin .geq (.t 66) (.t 67), none⟩])
     (.cond (.t 68) (.skip)
      (.exit 2)))
     (.block 3 (.seq (.ops false [⟨some 69, .mv (.t 13), none⟩, ⟨some 70, .bin .sub (.t 69) (.c (.int .i64 1)), none⟩, ⟨some 13, .mv (.t 70), none⟩])
      (.seq (.ops false [⟨some 71, .mv (.t 1), none⟩, ⟨some 72, .mv (.t 17), none⟩, ⟨some 73, .bin .quo (.t 71) (.t 72), none⟩, ⟨some 18, .mv (.t 73), none⟩])
      (.seq (.ops false [⟨some 74, .mv (.t 13), none⟩, ⟨some 75, .mv (.t 1), none⟩, ⟨some 76, .mv (.t 18), none⟩, ⟨some 77, .mv (.t 17), none⟩, ⟨some 78, .bin .mul (.t 76) (.t 77), none⟩, ⟨some 79, .bin .sub (.t 75) (.t 78), none⟩, ⟨some 80, .index (.c (.str [48, 49, 50, 51, 52, 53, 54, 55, 56, 57, 97, 98, 99, 100, 101, 102, 103, 104, 105, 106, 107, 108, 109, 110, 111, 112, 113, 114, 115, 116, 117, 118, 119, 120, 121, 122])) (.t 79), none⟩, ⟨some 81, .iaddrA 65 1 (.t 12) (.t 74), none⟩, ⟨none, .store 1 (.t 81) (.t 80), none⟩])
      (.ops false [⟨some 82, .mv (.t 18), none⟩, ⟨some 1, .mv (.t 82), none⟩]))))))))
   (.seq (.ops false [⟨some 83, .mv (.t 13), none⟩, ⟨some 84, .bin .sub (.t 83) (.c (.int .i64 1)), none⟩, ⟨some 13, .mv (.t 84), none⟩])
   (.ops false [⟨some 85, .mv (.t 13), none⟩, ⟨some 86, .mv (.t 1), none⟩, ⟨some 87, .index (.c (.str [48, 49, 50, 51, 52, 53, 54, 55, 56, 57, 97, 98, 99, 100, 101, 102, 103, 104, 105, 106, 107, 108, 109, 110, 111, 112, 113, 114, 115, 116, 117, 118, 119, 120, 121, 122])) (.t 86), none⟩, ⟨some 88, .iaddrA 65 1 (.t 12) (.t 85), none⟩, ⟨none, .store 1 (.t 88) (.t 87), none⟩]))))))
  (.seq (.seq (.ops false [⟨some 89, .mv (.t 3), none⟩])
  (.cond (.t 89) (.seq (.ops false [⟨some 90, .mv (.t 13), none⟩, ⟨some 91, .bin .sub (.t 90) (.c (.int .i64 1)), none⟩, ⟨some 13, .mv (.t 91), none⟩])
   (.ops false [⟨some 92, .mv (.t 13), none⟩, ⟨some 93, .iaddrA 65 1 (.t 12) (.t 92), none⟩, ⟨none, .store 1 (.t 93) (.c (.int .u8 45)), none⟩]))
   (.skip)))
  (.seq (.seq (.ops false [⟨some 94, .mv (.t 4), none⟩])
  (.cond (.t 94) (.seq (.ops false [⟨some 95, .mv (.t 0), none⟩, ⟨some 96, .mv (.t 13), none⟩, ⟨some 97, .bad, none⟩, ⟨some 98, .append 1 (.t 95) (.t 97), none⟩, ⟨some 10, .mv (.t 98), none⟩])
   (.ret))
   (.skip)))
  (.seq (.ops false [⟨some 99, .mv (.t 13), none⟩, ⟨some 100, .bad, none⟩, ⟨some 101, .b2s (.t 100), none⟩, ⟨some 11, .mv (.t 101), none⟩])
  (.ret))))))))),
  [.t 10, .t 11]⟩

/- (*strings.Builder).copyCheck -/
def d_strings_Builder_copyCheck : DFun := ⟨
  .seq (.ops false [⟨some 2, .mv (.t 0), none⟩, ⟨some 3, .nilck (.t 2), none⟩, ⟨some 4, .faddr 0 (.t 3), none⟩, ⟨some 5, .load none (.t 4), none⟩, ⟨some 6, .peq false (.t 5) (.c (.nilp)), none⟩])
  (.cond (.t 6) (.ops false [⟨some 7, .mv (.t 0), none⟩, ⟨some 8, .mv (.t 0), none⟩, ⟨some 9, .bad, none⟩, ⟨some 10, .callP 78 [(.t 9)], none⟩, ⟨some 11, .bad, none⟩, ⟨some 12, .nilck (.t 7), none⟩, ⟨some 13, .faddr 0 (.t 12), none⟩, ⟨none, .store 1 (.t 13) (.t 11), none⟩])
   (.seq (.ops false [⟨some 14, .mv (.t 0), none⟩, ⟨some 15, .nilck (.t 14), none⟩, ⟨some 16, .faddr 0 (.t 15), none⟩, ⟨some 17, .load none (.t 16), none⟩, ⟨some 18, .mv (.t 0), none⟩, ⟨some 19, .peq true (.t 17) (.t 18), none⟩])
   (.cond (.t 19) (.bad)
    (.skip)))),
  []⟩

/- (*strings.Builder).grow -/
def d_strings_Builder_grow : DFun := ⟨
  .seq (.opsP [(0, ⟨some 5, .mv (.t 0), none⟩), (1, ⟨some 6, .nilck (.t 5), none⟩), (2, ⟨some 7, .faddr 1 (.t 6), none⟩), (3, ⟨some 8, .load none (.t 7), none⟩), (6, ⟨some 11, .mv (.t 1), none⟩), (9, ⟨some 14, .mv (.t 0), none⟩), (10, ⟨some 15, .nilck (.t 14), none⟩), (11, ⟨some 16, .faddr 1 (.t 15), none⟩), (12, ⟨some 17, .load none (.t 16), none⟩), (13, ⟨some 18, .len (.t 17), none⟩), (4, ⟨some 9, .capn (.t 8), none⟩), (5, ⟨some 10, .bin .mul (.c (.int .i64 2)) (.t 9), none⟩), (7, ⟨some 12, .bin .add (.t 10) (.t 11), none⟩), (8, ⟨some 13, .callP 79 [(.t 12)], none⟩), (14, ⟨some 19, .slice 1 (.t 13) none (some (.t 18)) none, none⟩), (15, ⟨some 4, .mv (.t 19), none⟩)])
  (.seq (.ops false [⟨some 20, .mv (.t 4), none⟩, ⟨some 21, .mv (.t 0), none⟩, ⟨some 22, .nilck (.t 21), none⟩, ⟨some 23, .faddr 1 (.t 22), none⟩, ⟨some 24, .load none (.t 23), none⟩, ⟨some 25, .copy 1 (.t 20) (.t 24), none⟩])
  (.ops false [⟨some 26, .mv (.t 0), none⟩, ⟨some 27, .mv (.t 4), none⟩, ⟨some 28, .nilck (.t 26), none⟩, ⟨some 29, .faddr 1 (.t 28), none⟩, ⟨none, .store 1 (.t 29) (.t 27), none⟩])),
  []⟩

/- (*noria/reader.state).fail -/
def d_reader_state_fail : DFun := ⟨
  .ops false [⟨some 2, .mv (.t 0), none⟩, ⟨some 3, .mv (.t 0), none⟩, ⟨some 4, .nilck (.t 2), none⟩, ⟨some 5, .faddr 1 (.t 4), none⟩, ⟨none, .store 1 (.t 5) (.c (.bool false)), none⟩, ⟨some 6, .nilck (.t 3), none⟩, ⟨some 7, .faddr 0 (.t 6), none⟩, ⟨none, .store 1 (.t 7) (.c (.nil)), none⟩],
  []⟩

/- (*noria/reader.Writer).lay -/
def d_reader_Writer_lay : DFun := ⟨
  .seq (.ops false [⟨some 4, .mv (.t 0), none⟩, ⟨some 5, .callH 48 [(.t 4)], none⟩])
  (.cond (.t 5) (.ops false [⟨some 6, .mv (.t 0), none⟩, ⟨some 7, .mv (.t 0), none⟩, ⟨some 8, .nilck (.t 7), none⟩, ⟨some 9, .faddr 0 (.t 8), none⟩, ⟨some 10, .faddr 0 (.t 9), none⟩, ⟨some 11, .load none (.t 10), none⟩, ⟨some 12, .mv (.t 1), none⟩, ⟨some 13, .append 1 (.t 11) (.t 12), none⟩, ⟨some 14, .nilck (.t 6), none⟩, ⟨some 15, .faddr 0 (.t 14), none⟩, ⟨some 16, .faddr 0 (.t 15), none⟩, ⟨none, .store 1 (.t 16) (.t 13), none⟩])
   (.skip)),
  []⟩

/- noria/octet.Put -/
def d_octet_Put : DFun := ⟨
  .seq (.ops false [⟨some 4, .mv (.c (.nil)), none⟩])
  (.seq (.seq (.ops false [⟨some 7, .mv (.t 1), none⟩, ⟨some 8, .bin .lss (.t 7) (.c (.int .i64 1)), none⟩, ⟨some 9, .mv (.t 8), none⟩, ⟨some 10, .mv (.t 1), some (9, false)⟩, ⟨some 11, .bin .gtr (.t 10) (.c (.int .i64 8)), some (9, false)⟩, ⟨some 12, .pick (.t 9) (.c (.bool true)) (.t 11), none⟩])
  (.cond (.t 12) (.seq (.ops false [⟨some 4, .mv (.c (.nil)), none⟩])
   (.ret))
   (.skip)))
  (.seq (.ops false [⟨some 13, .mv (.t 1), none⟩, ⟨some 14, .make [.int .u8 0] (.t 13) (.t 13), none⟩, ⟨some 5, .mv (.t 14), none⟩])
  (.seq (.seq (.ops false [⟨some 15, .mv (.t 1), none⟩, ⟨some 16, .mv (.c (.int .i64 0)), none⟩])
  (.block 0 (.loop [0, 1, 5, 15, 16] (some 1) (.seq (.ops false [⟨some 17, .bin .lss (.t 16) (.t 15), none⟩])
    (.seq (.cond (.t 17) (.skip)
     (.exit 0))
    (.seq (.block 1 (.seq (.ops false [⟨some 18, .mv (.t 16), none⟩, ⟨some 6, .mv (.t 18), none⟩])
     (.ops false [⟨some 19, .mv (.t 5), none⟩, ⟨some 20, .mv (.t 1), none⟩, ⟨some 21, .bin .sub (.t 20) (.c (.int .i64 1)), none⟩, ⟨some 22, .mv (.t 6), none⟩, ⟨some 23, .bin .sub (.t 21) (.t 22), none⟩, ⟨some 24, .mv (.t 0), none⟩, ⟨some 25, .mv (.t 6), none⟩, ⟨some 26, .bin .mul (.c (.int .i64 8)) (.t 25), none⟩, ⟨some 27, .bin .shr (.t 24) (.t 26), none⟩, ⟨some 28, .conv .u8 (.t 27), none⟩, ⟨some 29, .iaddr 1 (.t 19) (.t 23), none⟩, ⟨none, .store 1 (.t 29) (.t 28), none⟩])))
    (.ops false [⟨some 30, .bin .add (.t 16) (.c (.int .i64 1)), none⟩, ⟨some 16, .mv (.t 30), none⟩])))))))
  (.seq (.ops false [⟨some 31, .mv (.t 5), none⟩, ⟨some 4, .mv (.t 31), none⟩])
  (.ret))))),
  [.t 4]⟩

/- noria/octet.Int -/
def d_octet_Int : DFun := ⟨
  .seq (.ops false [⟨some 2, .mv (.c (.nil)), none⟩])
  (.seq (.ops false [⟨some 4, .mv (.t 0), none⟩, ⟨some 5, .conv .u64 (.t 4), none⟩, ⟨some 6, .callP 65 [(.t 5), (.c (.int .i64 8))], none⟩, ⟨some 3, .mv (.t 6), none⟩])
  (.seq (.block 0 (.loop [3] (some 0) (.seq (.seq (.ops false [⟨some 7, .mv (.t 3), none⟩, ⟨some 8, .callP 80 [(.t 7)], none⟩])
    (.cond (.t 8) (.skip)
     (.exit 0)))
    (.block 1 (.ops false [⟨some 9, .mv (.t 3), none⟩, ⟨some 10, .slice 1 (.t 9) (some (.c (.int .i64 1))) none none, none⟩, ⟨some 3, .mv (.t 10), none⟩])))))
  (.seq (.ops false [⟨some 11, .mv (.t 3), none⟩, ⟨some 12, .callP 49 [(.t 11)], none⟩, ⟨some 2, .mv (.t 12), none⟩])
  (.ret)))),
  [.t 2]⟩

/- noria/octet.Get -/
def d_octet_Get : DFun := ⟨
  .seq (.ops false [⟨some 2, .mv (.c (.int .u64 0)), none⟩])
  (.seq (.ops false [⟨some 3, .mv (.c (.int .u64 0)), none⟩])
  (.seq (.seq (.ops false [⟨some 6, .mv (.t 0), none⟩, ⟨some 7, .len (.t 6), none⟩, ⟨some 8, .mv (.c (.int .i64 0)), none⟩])
  (.block 0 (.loop [3, 6, 7, 8] (some 0) (.seq (.ops false [⟨some 9, .bin .lss (.t 8) (.t 7), none⟩])
    (.seq (.cond (.t 9) (.skip)
     (.exit 0))
    (.seq (.block 1 (.seq (.ops false [⟨some 10, .iaddr 1 (.t 6) (.t 8), none⟩, ⟨some 11, .load none (.t 10), none⟩, ⟨some 5, .mv (.t 11), none⟩])
     (.ops false [⟨some 12, .mv (.t 3), none⟩, ⟨some 13, .bin .shl (.t 12) (.c (.int .u64 8)), none⟩, ⟨some 14, .mv (.t 5), none⟩, ⟨some 15, .conv .u64 (.t 14), none⟩, ⟨some 16, .bin .or (.t 13) (.t 15), none⟩, ⟨some 3, .mv (.t 16), none⟩])))
    (.ops false [⟨some 17, .bin .add (.t 8) (.c (.int .i64 1)), none⟩, ⟨some 8, .mv (.t 17), none⟩])))))))
  (.seq (.ops false [⟨some 18, .mv (.t 3), none⟩, ⟨some 2, .mv (.t 18), none⟩])
  (.ret)))),
  [.t 2]⟩

/- (*noria/reader.Reader).next -/
def d_reader_Reader_next : DFun := ⟨
  .seq (.ops false [⟨some 4, .mv (.c (.nil)), none⟩])
  (.seq (.seq (.ops false [⟨some 6, .mv (.t 0), none⟩, ⟨some 7, .callH 36 [(.t 6)], none⟩, ⟨some 8, .un .not (.t 7), none⟩])
  (.cond (.t 8) (.seq (.ops false [⟨some 4, .mv (.c (.nil)), none⟩])
   (.ret))
   (.skip)))
  (.seq (.seq (.ops true [⟨some 9, .mv (.t 1), none⟩, ⟨some 10, .bin .lss (.t 9) (.c (.int .i64 0)), none⟩, ⟨some 11, .mv (.t 10), none⟩, ⟨some 12, .mv (.t 1), some (11, false)⟩, ⟨some 13, .mv (.t 0), some (11, false)⟩, ⟨some 14, .nilck (.t 13), some (11, false)⟩, ⟨some 15, .faddr 0 (.t 14), some (11, false)⟩, ⟨some 16, .faddr 0 (.t 15), some (11, false)⟩, ⟨some 17, .load none (.t 16), some (11, false)⟩, ⟨some 18, .len (.t 17), some (11, false)⟩, ⟨some 19, .mv (.t 0), some (11, false)⟩, ⟨some 20, .nilck (.t 19), some (11, false)⟩, ⟨some 21, .faddr 2 (.t 20), some (11, false)⟩, ⟨some 22, .load none (.t 21), some (11, false)⟩, ⟨some 23, .bin .sub (.t 18) (.t 22), some (11, false)⟩, ⟨some 24, .bin .gtr (.t 12) (.t 23), some (11, false)⟩, ⟨some 25, .pick (.t 11) (.c (.bool true)) (.t 24), none⟩])
  (.cond (.t 25) (.seq (.ops false [⟨some 26, .mv (.t 0), none⟩, ⟨some 27, .nilck (.t 26), none⟩, ⟨some 28, .faddr 0 (.t 27), none⟩, ⟨some 29, .callH 63 [(.t 28)], none⟩])
   (.seq (.ops false [⟨some 30, .mv (.t 0), none⟩, ⟨some 31, .nilck (.t 30), none⟩, ⟨some 32, .faddr 2 (.t 31), none⟩, ⟨none, .store 1 (.t 32) (.c (.int .i64 0)), none⟩])
   (.seq (.ops false [⟨some 4, .mv (.c (.nil)), none⟩])
   (.ret))))
   (.skip)))
  (.seq (.ops false [⟨some 33, .mv (.t 0), none⟩, ⟨some 34, .nilck (.t 33), none⟩, ⟨some 35, .faddr 2 (.t 34), none⟩, ⟨some 36, .load none (.t 35), none⟩, ⟨some 5, .mv (.t 36), none⟩])
  (.seq (.ops false [⟨some 37, .mv (.t 0), none⟩, ⟨some 38, .nilck (.t 37), none⟩, ⟨some 39, .faddr 2 (.t 38), none⟩, ⟨some 40, .load none (.t 39), none⟩, ⟨some 41, .mv (.t 1), none⟩, ⟨some 42, .bin .add (.t 40) (.t 41), none⟩, ⟨some 43, .nilck (.t 37), none⟩, ⟨some 44, .faddr 2 (.t 43), none⟩, ⟨none, .store 1 (.t 44) (.t 42), none⟩])
  (.seq (.ops true [⟨some 45, .mv (.t 0), none⟩, ⟨some 46, .nilck (.t 45), none⟩, ⟨some 47, .faddr 0 (.t 46), none⟩, ⟨some 48, .faddr 0 (.t 47), none⟩, ⟨some 49, .load none (.t 48), none⟩, ⟨some 50, .mv (.t 5), none⟩, ⟨some 51, .mv (.t 0), none⟩, ⟨some 52, .nilck (.t 51), none⟩, ⟨some 53, .faddr 2 (.t 52), none⟩, ⟨some 54, .load none (.t 53), none⟩, ⟨some 55, .mv (.t 0), none⟩, ⟨some 56, .nilck (.t 55), none⟩, ⟨some 57, .faddr 2 (.t 56), none⟩, ⟨some 58, .load none (.t 57), none⟩, ⟨some 59, .slice 1 (.t 49) (some (.t 50)) (some (.t 54)) (some (.t 58)), none⟩, ⟨some 4, .mv (.t 59), none⟩])
  (.ret)))))),
  [.t 4]⟩

/- noria/octet.Back -/
def d_octet_Back : DFun := ⟨
  .seq (.ops false [⟨some 2, .mv (.c (.int .i64 0)), none⟩, ⟨some 3, .mv (.c (.bool false)), none⟩])
  (.seq (.seq (.ops false [⟨some 5, .mv (.t 0), none⟩, ⟨some 6, .len (.t 5), none⟩, ⟨some 7, .bin .lss (.t 6) (.c (.int .i64 1)), none⟩, ⟨some 8, .mv (.t 7), none⟩, ⟨some 9, .mv (.t 0), some (8, false)⟩, ⟨some 10, .len (.t 9), some (8, false)⟩, ⟨some 11, .bin .gtr (.t 10) (.c (.int .i64 8)), some (8, false)⟩, ⟨some 12, .pick (.t 8) (.c (.bool true)) (.t 11), none⟩, ⟨some 13, .mv (.t 12), none⟩, ⟨some 14, .mv (.t 0), some (13, false)⟩, ⟨some 15, .callP 80 [(.t 14)], some (13, false)⟩, ⟨some 16, .pick (.t 13) (.c (.bool true)) (.t 15), none⟩])
  (.cond (.t 16) (.seq (.ops false [⟨some 2, .mv (.c (.int .i64 0)), none⟩, ⟨some 3, .mv (.c (.bool false)), none⟩])
   (.ret))
   (.skip)))
  (.seq (.ops false [⟨some 17, .mv (.t 0), none⟩, ⟨some 18, .len (.t 17), none⟩, ⟨some 19, .bin .sub (.c (.int .i64 8)) (.t 18), none⟩, ⟨some 20, .bin .mul (.c (.int .i64 8)) (.t 19), none⟩, ⟨some 4, .mv (.t 20), none⟩])
  (.seq (.ops false [⟨some 21, .mv (.t 0), none⟩, ⟨some 22, .callP 67 [(.t 21)], none⟩, ⟨some 23, .mv (.t 4), none⟩, ⟨some 24, .bin .shl (.t 22) (.t 23), none⟩, ⟨some 25, .conv .i64 (.t 24), none⟩, ⟨some 26, .mv (.t 4), none⟩, ⟨some 27, .bin .shr (.t 25) (.t 26), none⟩, ⟨some 2, .mv (.t 27), none⟩, ⟨some 3, .mv (.c (.bool true)), none⟩])
  (.ret)))),
  [.t 2, .t 3]⟩

/- noria/noriaref01.Get -/
def d_noriaref01_Get : DFun := ⟨
  .seq (.ops false [⟨some 2, .mv (.c (.int .u64 0)), none⟩])
  (.seq (.ops false [⟨some 3, .mv (.c (.int .u64 0)), none⟩])
  (.seq (.seq (.ops false [⟨some 4, .mv (.c (.int .i64 0)), none⟩])
  (.block 0 (.loop [0, 3, 4] (some 0) (.seq (.seq (.ops false [⟨some 5, .mv (.t 4), none⟩, ⟨some 6, .mv (.t 0), none⟩, ⟨some 7, .len (.t 6), none⟩, ⟨some 8, .bin .lss (.t 5) (.t 7), none⟩])
    (.cond (.t 8) (.skip)
     (.exit 0)))
    (.seq (.block 1 (.ops false [⟨some 11, .mv (.t 3), none⟩, ⟨some 12, .bin .mul (.t 11) (.c (.int .u64 256)), none⟩, ⟨some 13, .mv (.t 0), none⟩, ⟨some 14, .mv (.t 4), none⟩, ⟨some 15, .iaddr 1 (.t 13) (.t 14), none⟩, ⟨some 16, .load none (.t 15), none⟩, ⟨some 17, .conv .u64 (.t 16), none⟩, ⟨some 18, .bin .add (.t 12) (.t 17), none⟩, ⟨some 3, .mv (.t 18), none⟩]))
    (.ops false [⟨some 9, .mv (.t 4), none⟩, ⟨some 10, .bin .add (.t 9) (.c (.int .i64 1)), none⟩, ⟨some 4, .mv (.t 10), none⟩]))))))
  (.seq (.ops false [⟨some 19, .mv (.t 3), none⟩, ⟨some 2, .mv (.t 19), none⟩])
  (.ret)))),
  [.t 2]⟩

/- (*noria/noriaref03.R).take -/
def d_noriaref03_R_take : DFun := ⟨
  .seq (.ops false [⟨some 4, .mv (.c (.nil)), none⟩])
  (.seq (.seq (.ops true [⟨some 5, .mv (.t 0), none⟩, ⟨some 6, .nilck (.t 5), none⟩, ⟨some 7, .faddr 2 (.t 6), none⟩, ⟨some 8, .load none (.t 7), none⟩, ⟨some 9, .mv (.t 8), none⟩, ⟨some 10, .mv (.t 1), some (9, false)⟩, ⟨some 11, .bin .lss (.t 10) (.c (.int .i64 0)), some (9, false)⟩, ⟨some 12, .pick (.t 9) (.c (.bool true)) (.t 11), none⟩, ⟨some 13, .mv (.t 12), none⟩, ⟨some 14, .mv (.t 1), some (13, false)⟩, ⟨some 15, .mv (.t 0), some (13, false)⟩, ⟨some 16, .nilck (.t 15), some (13, false)⟩, ⟨some 17, .faddr 0 (.t 16), some (13, false)⟩, ⟨some 18, .load none (.t 17), some (13, false)⟩, ⟨some 19, .len (.t 18), some (13, false)⟩, ⟨some 20, .mv (.t 0), some (13, false)⟩, ⟨some 21, .nilck (.t 20), some (13, false)⟩, ⟨some 22, .faddr 1 (.t 21), some (13, false)⟩, ⟨some 23, .load none (.t 22), some (13, false)⟩, ⟨some 24, .bin .sub (.t 19) (.t 23), some (13, false)⟩, ⟨some 25, .bin .gtr (.t 14) (.t 24), some (13, false)⟩, ⟨some 26, .pick (.t 13) (.c (.bool true)) (.t 25), none⟩])
  (.cond (.t 26) (.seq (.ops false [⟨some 27, .mv (.t 0), none⟩, ⟨some 28, .nilck (.t 27), none⟩, ⟨some 29, .faddr 2 (.t 28), none⟩, ⟨none, .store 1 (.t 29) (.c (.bool true)), none⟩])
   (.seq (.ops false [⟨some 30, .mv (.t 0), none⟩, ⟨some 31, .nilck (.t 30), none⟩, ⟨some 32, .faddr 1 (.t 31), none⟩, ⟨none, .store 1 (.t 32) (.c (.int .i64 0)), none⟩])
   (.seq (.ops false [⟨some 4, .mv (.c (.nil)), none⟩])
   (.ret))))
   (.skip)))
  (.seq (.ops false [⟨some 33, .mv (.t 0), none⟩, ⟨some 34, .mv (.t 0), none⟩, ⟨some 35, .nilck (.t 34), none⟩, ⟨some 36, .faddr 1 (.t 35), none⟩, ⟨some 37, .load none (.t 36), none⟩, ⟨some 38, .mv (.t 1), none⟩, ⟨some 39, .bin .add (.t 37) (.t 38), none⟩, ⟨some 40, .nilck (.t 33), none⟩, ⟨some 41, .faddr 1 (.t 40), none⟩, ⟨none, .store 1 (.t 41) (.t 39), none⟩])
  (.seq (.ops true [⟨some 42, .mv (.t 0), none⟩, ⟨some 43, .nilck (.t 42), none⟩, ⟨some 44, .faddr 0 (.t 43), none⟩, ⟨some 45, .load none (.t 44), none⟩, ⟨some 46, .mv (.t 0), none⟩, ⟨some 47, .nilck (.t 46), none⟩, ⟨some 48, .faddr 1 (.t 47), none⟩, ⟨some 49, .load none (.t 48), none⟩, ⟨some 50, .mv (.t 1), none⟩, ⟨some 51, .bin .sub (.t 49) (.t 50), none⟩, ⟨some 52, .mv (.t 0), none⟩, ⟨some 53, .nilck (.t 52), none⟩, ⟨some 54, .faddr 1 (.t 53), none⟩, ⟨some 55, .load none (.t 54), none⟩, ⟨some 56, .slice 1 (.t 45) (some (.t 51)) (some (.t 55)) none, none⟩, ⟨some 4, .mv (.t 56), none⟩])
  (.ret)))),
  [.t 4]⟩

/- noria/noriaref01.Back -/
def d_noriaref01_Back : DFun := ⟨
  .seq (.ops false [⟨some 2, .mv (.c (.int .i64 0)), none⟩, ⟨some 3, .mv (.c (.bool false)), none⟩])
  (.seq (.seq (.ops false [⟨some 6, .mv (.t 0), none⟩, ⟨some 7, .len (.t 6), none⟩, ⟨some 8, .bin .lss (.t 7) (.c (.int .i64 1)), none⟩, ⟨some 9, .mv (.t 8), none⟩, ⟨some 10, .mv (.t 0), some (9, false)⟩, ⟨some 11, .len (.t 10), some (9, false)⟩, ⟨some 12, .bin .gtr (.t 11) (.c (.int .i64 8)), some (9, false)⟩, ⟨some 13, .pick (.t 9) (.c (.bool true)) (.t 12), none⟩])
  (.cond (.t 13) (.seq (.ops false [⟨some 2, .mv (.c (.int .i64 0)), none⟩, ⟨some 3, .mv (.c (.bool false)), none⟩])
   (.ret))
   (.skip)))
  (.seq (.seq (.ops false [⟨some 14, .mv (.t 0), none⟩, ⟨some 15, .len (.t 14), none⟩, ⟨some 16, .bin .gtr (.t 15) (.c (.int .i64 1)), none⟩, ⟨some 17, .mv (.t 16), none⟩, ⟨some 18, .mv (.t 0), some (17, true)⟩, ⟨some 19, .iaddr 1 (.t 18) (.c (.int .i64 0)), some (17, true)⟩, ⟨some 20, .load none (.t 19), some (17, true)⟩, ⟨some 21, .bin .eql (.t 20) (.c (.int .u8 0)), some (17, true)⟩, ⟨some 22, .mv (.t 21), some (17, true)⟩, ⟨some 23, .mv (.t 0), some (22, true)⟩, ⟨some 24, .iaddr 1 (.t 23) (.c (.int .i64 1)), some (22, true)⟩, ⟨some 25, .load none (.t 24), some (22, true)⟩, ⟨some 26, .bin .lss (.t 25) (.c (.int .u8 128)), some (22, true)⟩, ⟨some 27, .pick (.t 22) (.t 26) (.c (.bool false)), some (17, true)⟩, ⟨some 28, .mv (.t 27), some (17, true)⟩, ⟨some 29, .mv (.t 0), some (28, false)⟩, ⟨some 30, .iaddr 1 (.t 29) (.c (.int .i64 0)), some (28, false)⟩, ⟨some 31, .load none (.t 30), some (28, false)⟩, ⟨some 32, .bin .eql (.t 31) (.c (.int .u8 255)), some (28, false)⟩, ⟨some 33, .mv (.t 32), some (28, false)⟩, ⟨some 34, .mv (.t 0), some (33, true)⟩, ⟨some 35, .iaddr 1 (.t 34) (.c (.int .i64 1)), some (33, true)⟩, ⟨some 36, .load none (.t 35), some (33, true)⟩, ⟨some 37, .bin .geq (.t 36) (.c (.int .u8 128)), some (33, true)⟩, ⟨some 38, .pick (.t 33) (.t 37) (.c (.bool false)), some (28, false)⟩, ⟨some 39, .pick (.t 28) (.c (.bool true)) (.t 38), some (17, true)⟩, ⟨some 40, .pick (.t 17) (.t 39) (.c (.bool false)), none⟩])
  (.cond (.t 40) (.seq (.ops false [⟨some 2, .mv (.c (.int .i64 0)), none⟩, ⟨some 3, .mv (.c (.bool false)), none⟩])
   (.ret))
   (.skip)))
  (.seq (.ops false [⟨some 4, .mv (.c (.int .u64 0)), none⟩])
  (.seq (.seq (.ops false [⟨some 41, .mv (.t 0), none⟩, ⟨some 42, .iaddr 1 (.t 41) (.c (.int .i64 0)), none⟩, ⟨some 43, .load none (.t 42), none⟩, ⟨some 44, .bin .geq (.t 43) (.c (.int .u8 128)), none⟩])
  (.cond (.t 44) (.ops false [⟨some 45, .mv (.t 4), none⟩, ⟨some 46, .bin .sub (.t 45) (.c (.int .u64 1)), none⟩, ⟨some 4, .mv (.t 46), none⟩])
   (.skip)))
  (.seq (.seq (.ops false [⟨some 5, .mv (.c (.int .i64 0)), none⟩])
  (.block 0 (.loop [0, 4, 5] (some 0) (.seq (.seq (.ops false [⟨some 47, .mv (.t 5), none⟩, ⟨some 48, .mv (.t 0), none⟩, ⟨some 49, .len (.t 48), none⟩, ⟨some 50, .bin .lss (.t 47) (.t 49), none⟩])
    (.cond (.t 50) (.skip)
     (.exit 0)))
    (.seq (.block 1 (.ops false [⟨some 53, .mv (.t 4), none⟩, ⟨some 54, .bin .mul (.t 53) (.c (.int .u64 256)), none⟩, ⟨some 55, .mv (.t 0), none⟩, ⟨some 56, .mv (.t 5), none⟩, ⟨some 57, .iaddr 1 (.t 55) (.t 56), none⟩, ⟨some 58, .load none (.t 57), none⟩, ⟨some 59, .conv .u64 (.t 58), none⟩, ⟨some 60, .bin .add (.t 54) (.t 59), none⟩, ⟨some 4, .mv (.t 60), none⟩]))
    (.ops false [⟨some 51, .mv (.t 5), none⟩, ⟨some 52, .bin .add (.t 51) (.c (.int .i64 1)), none⟩, ⟨some 5, .mv (.t 52), none⟩]))))))
  (.seq (.ops false [⟨some 61, .mv (.t 4), none⟩, ⟨some 62, .conv .i64 (.t 61), none⟩, ⟨some 2, .mv (.t 62), none⟩, ⟨some 3, .mv (.c (.bool true)), none⟩])
  (.ret))))))),
  [.t 2, .t 3]⟩

/- internal/strconv.log10Pow2 -/
def d_internal_strconv_log10Pow2 : DFun := ⟨
  .seq (.ops false [⟨some 2, .mv (.c (.int .i64 0)), none⟩])
  (.seq (.ops false [⟨some 3, .mv (.t 0), none⟩, ⟨some 4, .bin .mul (.t 3) (.c (.int .i64 78913)), none⟩, ⟨some 5, .bin .shr (.t 4) (.c (.int .u64 18)), none⟩, ⟨some 2, .mv (.t 5), none⟩])
  (.ret)),
  [.t 2]⟩

/- math/bits.Len64 -/
def d_math_bits_Len64 : DFun := ⟨
  .seq (.ops false [⟨some 2, .mv (.c (.int .i64 0)), none⟩])
  (.seq (.seq (.ops false [⟨some 3, .mv (.t 0), none⟩, ⟨some 4, .bin .geq (.t 3) (.c (.int .u64 4294967296)), none⟩])
  (.cond (.t 4) (.seq (.ops false [⟨some 5, .mv (.t 0), none⟩, ⟨some 6, .bin .shr (.t 5) (.c (.int .u64 32)), none⟩, ⟨some 0, .mv (.t 6), none⟩])
   (.ops false [⟨some 2, .mv (.c (.int .i64 32)), none⟩]))
   (.skip)))
  (.seq (.seq (.ops false [⟨some 7, .mv (.t 0), none⟩, ⟨some 8, .bin .geq (.t 7) (.c (.int .u64 65536)), none⟩])
  (.cond (.t 8) (.seq (.ops false [⟨some 9, .mv (.t 0), none⟩, ⟨some 10, .bin .shr (.t 9) (.c (.int .u64 16)), none⟩, ⟨some 0, .mv (.t 10), none⟩])
   (.ops false [⟨some 11, .mv (.t 2), none⟩, ⟨some 12, .bin .add (.t 11) (.c (.int .i64 16)), none⟩, ⟨some 2, .mv (.t 12), none⟩]))
   (.skip)))
  (.seq (.seq (.ops false [⟨some 13, .mv (.t 0), none⟩, ⟨some 14, .bin .geq (.t 13) (.c (.int .u64 256)), none⟩])
  (.cond (.t 14) (.seq (.ops false [⟨some 15, .mv (.t 0), none⟩, ⟨some 16, .bin .shr (.t 15) (.c (.int .u64 8)), none⟩, ⟨some 0, .mv (.t 16), none⟩])
   (.ops false [⟨some 17, .mv (.t 2), none⟩, ⟨some 18, .bin .add (.t 17) (.c (.int .i64 8)), none⟩, ⟨some 2, .mv (.t 18), none⟩]))
   (.skip)))
  (.seq (.ops false [⟨some 19, .mv (.t 2), none⟩, ⟨some 20, .mv (.t 0), none⟩, ⟨some 21, .conv .u8 (.t 20), none⟩, ⟨some 22, .index (.c (.str [0, 1, 2, 2, 3, 3, 3, 3, 4, 4, 4, 4, 4, 4, 4, 4, 5, 5, 5, 5, 5, 5, 5, 5, 5, 5, 5, 5, 5, 5, 5, 5, 6, 6, 6, 6, 6, 6, 6, 6, 6, 6, 6, 6, 6, 6, 6, 6, 6, 6, 6, 6, 6, 6, 6, 6, 6, 6, 6, 6, 6, 6, 6, 6, 7, 7, 7, 7, 7, 7, 7, 7, 7, 7, 7, 7, 7, 7, 7, 7, 7, 7, 7, 7, 7, 7, 7, 7, 7, 7, 7, 7, 7, 7, 7, 7, 7, 7, 7, 7, 7, 7, 7, 7, 7, 7, 7, 7, 7, 7, 7, 7, 7, 7, 7, 7, 7, 7, 7, 7, 7, 7, 7, 7, 7, 7, 7, 7, 8, 8, 8, 8, 8, 8, 8, 8, 8, 8, 8, 8, 8, 8, 8, 8, 8, 8, 8, 8, 8, 8, 8, 8, 8, 8, 8, 8, 8, 8, 8, 8, 8, 8, 8, 8, 8, 8, 8, 8, 8, 8, 8, 8, 8, 8, 8, 8, 8, 8, 8, 8, 8, 8, 8, 8, 8, 8, 8, 8, 8, 8, 8, 8, 8, 8, 8, 8, 8, 8, 8, 8, 8, 8, 8, 8, 8, 8, 8, 8, 8, 8, 8, 8, 8, 8, 8, 8, 8, 8, 8, 8, 8, 8, 8, 8, 8, 8, 8, 8, 8, 8, 8, 8, 8, 8, 8, 8, 8, 8, 8, 8, 8, 8, 8, 8, 8, 8, 8, 8, 8, 8, 8, 8, 8, 8, 8, 8])) (.t 21), none⟩, ⟨some 23, .conv .i64 (.t 22), none⟩, ⟨some 24, .bin .add (.t 19) (.t 23), none⟩, ⟨some 2, .mv (.t 24), none⟩])
  (.ret))))),
  [.t 2]⟩

/- internal/strconv.bool2[int] -/
def d_internal_strconv_bool2_int : DFun := ⟨
  .seq (.ops false [⟨some 2, .mv (.c (.int .i64 0)), none⟩])
  (.seq (.seq (.ops false [⟨some 3, .mv (.t 0), none⟩])
  (.cond (.t 3) (.seq (.ops false [⟨some 2, .mv (.c (.int .i64 1)), none⟩])
   (.ret))
   (.skip)))
  (.seq (.ops false [⟨some 2, .mv (.c (.int .i64 0)), none⟩])
  (.ret))),
  [.t 2]⟩

/- internal/strconv.isPowerOfTwo -/
def d_internal_strconv_isPowerOfTwo : DFun := ⟨
  .seq (.ops false [⟨some 2, .mv (.c (.bool false)), none⟩])
  (.seq (.ops false [⟨some 3, .mv (.t 0), none⟩, ⟨some 4, .mv (.t 0), none⟩, ⟨some 5, .bin .sub (.t 4) (.c (.int .i64 1)), none⟩, ⟨some 6, .bin .and (.t 3) (.t 5), none⟩, ⟨some 7, .bin .eql (.t 6) (.c (.int .i64 0)), none⟩, ⟨some 2, .mv (.t 7), none⟩])
  (.ret)),
  [.t 2]⟩

/- math/bits.TrailingZeros -/
def d_math_bits_TrailingZeros : DFun := ⟨
  .seq (.ops false [⟨some 2, .mv (.c (.int .i64 0)), none⟩])
  (.seq (.cond (.c (.bool false)) (.seq (.ops false [⟨some 3, .mv (.t 0), none⟩, ⟨some 4, .conv .u32 (.t 3), none⟩, ⟨some 5, .callP 81 [(.t 4)], none⟩, ⟨some 2, .mv (.t 5), none⟩])
   (.ret))
   (.skip))
  (.seq (.ops false [⟨some 6, .mv (.t 0), none⟩, ⟨some 7, .callP 82 [(.t 6)], none⟩, ⟨some 2, .mv (.t 7), none⟩])
  (.ret))),
  [.t 2]⟩

/- noria/octet.idle -/
def d_octet_idle : DFun := ⟨
  .seq (.ops false [⟨some 2, .mv (.c (.bool false)), none⟩])
  (.seq (.seq (.ops false [⟨some 4, .mv (.t 0), none⟩, ⟨some 5, .len (.t 4), none⟩, ⟨some 6, .bin .lss (.t 5) (.c (.int .i64 2)), none⟩])
  (.cond (.t 6) (.seq (.ops false [⟨some 2, .mv (.c (.bool false)), none⟩])
   (.ret))
   (.skip)))
  (.seq (.ops false [⟨some 7, .mv (.t 0), none⟩, ⟨some 8, .iaddr 1 (.t 7) (.c (.int .i64 1)), none⟩, ⟨some 9, .load none (.t 8), none⟩, ⟨some 10, .bin .and (.t 9) (.c (.int .u8 128)), none⟩, ⟨some 11, .bin .neq (.t 10) (.c (.int .u8 0)), none⟩, ⟨some 3, .mv (.t 11), none⟩])
  (.seq (.ops false [⟨some 12, .mv (.t 0), none⟩, ⟨some 13, .iaddr 1 (.t 12) (.c (.int .i64 0)), none⟩, ⟨some 14, .load none (.t 13), none⟩, ⟨some 15, .bin .eql (.t 14) (.c (.int .u8 0)), none⟩, ⟨some 16, .mv (.t 15), none⟩, ⟨some 17, .mv (.t 3), some (16, true)⟩, ⟨some 18, .un .not (.t 17), some (16, true)⟩, ⟨some 19, .pick (.t 16) (.t 18) (.c (.bool false)), none⟩, ⟨some 20, .mv (.t 19), none⟩, ⟨some 21, .mv (.t 0), some (20, false)⟩, ⟨some 22, .iaddr 1 (.t 21) (.c (.int .i64 0)), some (20, false)⟩, ⟨some 23, .load none (.t 22), some (20, false)⟩, ⟨some 24, .bin .eql (.t 23) (.c (.int .u8 255)), some (20, false)⟩, ⟨some 25, .mv (.t 24), some (20, false)⟩, ⟨some 26, .mv (.t 3), some (25, true)⟩, ⟨some 27, .pick (.t 25) (.t 26) (.c (.bool false)), some (20, false)⟩, ⟨some 28, .pick (.t 20) (.c (.bool true)) (.t 27), none⟩, ⟨some 2, .mv (.t 28), none⟩])
  (.ret)))),
  [.t 2]⟩

/- math/bits.TrailingZeros32 -/
def d_math_bits_TrailingZeros32 : DFun := ⟨
  .seq (.ops false [⟨some 2, .mv (.c (.int .i64 0)), none⟩])
  (.seq (.seq (.ops false [⟨some 3, .mv (.t 0), none⟩, ⟨some 4, .bin .eql (.t 3) (.c (.int .u32 0)), none⟩])
  (.cond (.t 4) (.seq (.ops false [⟨some 2, .mv (.c (.int .i64 32)), none⟩])
   (.ret))
   (.skip)))
  (.seq (.ops false [⟨some 5, .mv (.t 0), none⟩, ⟨some 6, .mv (.t 0), none⟩, ⟨some 7, .un .neg (.t 6), none⟩, ⟨some 8, .bin .and (.t 5) (.t 7), none⟩, ⟨some 9, .bin .mul (.t 8) (.c (.int .u32 125613361)), none⟩, ⟨some 10, .bin .shr (.t 9) (.c (.int .u64 27)), none⟩, ⟨some 11, .bad, none⟩, ⟨some 12, .load none (.t 11), none⟩, ⟨some 13, .conv .i64 (.t 12), none⟩, ⟨some 2, .mv (.t 13), none⟩])
  (.ret))),
  [.t 2]⟩

/- math/bits.TrailingZeros64 -/
def d_math_bits_TrailingZeros64 : DFun := ⟨
  .seq (.ops false [⟨some 2, .mv (.c (.int .i64 0)), none⟩])
  (.seq (.seq (.ops false [⟨some 3, .mv (.t 0), none⟩, ⟨some 4, .bin .eql (.t 3) (.c (.int .u64 0)), none⟩])
  (.cond (.t 4) (.seq (.ops false [⟨some 2, .mv (.c (.int .i64 64)), none⟩])
   (.ret))
   (.skip)))
  (.seq (.ops false [⟨some 5, .mv (.t 0), none⟩, ⟨some 6, .mv (.t 0), none⟩, ⟨some 7, .un .neg (.t 6), none⟩, ⟨some 8, .bin .and (.t 5) (.t 7), none⟩, ⟨some 9, .bin .mul (.t 8) (.c (.int .u64 285870213051353865)), none⟩, ⟨some 10, .bin .shr (.t 9) (.c (.int .u64 58)), none⟩, ⟨some 11, .bad, none⟩, ⟨some 12, .load none (.t 11), none⟩, ⟨some 13, .conv .i64 (.t 12), none⟩, ⟨some 2, .mv (.t 13), none⟩])
  (.ret))),
  [.t 2]⟩

/- gosem.cut.vars -/
def d_gosem_cut_vars : DFun := ⟨
  .seq (.ops false [⟨some 0, .build [.int .u8 0, .int .u8 0, .int .u8 0, .int .u8 0, .int .u8 0, .int .u8 0, .int .u8 0, .int .u8 0, .int .u8 0, .int .u8 0, .int .u8 0, .int .u8 0, .int .u8 0, .int .u8 0, .int .u8 0, .int .u8 0, .int .u8 0, .int .u8 0, .int .u8 0, .int .u8 0, .int .u8 0, .int .u8 0, .int .u8 0, .int .u8 0, .int .u8 0, .int .u8 0, .int .u8 0, .int .u8 0, .int .u8 0, .int .u8 0, .int .u8 0, .int .u8 0] [(0, 1, (.c (.int .u8 0))), (1, 1, (.c (.int .u8 1))), (2, 1, (.c (.int .u8 28))), (3, 1, (.c (.int .u8 2))), (4, 1, (.c (.int .u8 29))), (5, 1, (.c (.int .u8 14))), (6, 1, (.c (.int .u8 24))), (7, 1, (.c (.int .u8 3))), (8, 1, (.c (.int .u8 30))), (9, 1, (.c (.int .u8 22))), (10, 1, (.c (.int .u8 20))), (11, 1, (.c (.int .u8 15))), (12, 1, (.c (.int .u8 25))), (13, 1, (.c (.int .u8 17))), (14, 1, (.c (.int .u8 4))), (15, 1, (.c (.int .u8 8))), (16, 1, (.c (.int .u8 31))), (17, 1, (.c (.int .u8 27))), (18, 1, (.c (.int .u8 13))), (19, 1, (.c (.int .u8 23))), (20, 1, (.c (.int .u8 21))), (21, 1, (.c (.int .u8 19))), (22, 1, (.c (.int .u8 16))), (23, 1, (.c (.int .u8 7))), (24, 1, (.c (.int .u8 26))), (25, 1, (.c (.int .u8 12))), (26, 1, (.c (.int .u8 18))), (27, 1, (.c (.int .u8 6))), (28, 1, (.c (.int .u8 11))), (29, 1, (.c (.int .u8 5))), (30, 1, (.c (.int .u8 10))), (31, 1, (.c (.int .u8 9)))], none⟩, ⟨none, .bad, none⟩])
  (.seq (.ops false [⟨some 1, .build [.int .u8 0, .int .u8 0, .int .u8 0, .int .u8 0, .int .u8 0, .int .u8 0, .int .u8 0, .int .u8 0, .int .u8 0, .int .u8 0, .int .u8 0, .int .u8 0, .int .u8 0, .int .u8 0, .int .u8 0, .int .u8 0, .int .u8 0, .int .u8 0, .int .u8 0, .int .u8 0, .int .u8 0, .int .u8 0, .int .u8 0, .int .u8 0, .int .u8 0, .int .u8 0, .int .u8 0, .int .u8 0, .int .u8 0, .int .u8 0, .int .u8 0, .int .u8 0, .int .u8 0, .int .u8 0, .int .u8 0, .int .u8 0, .int .u8 0, .int .u8 0, .int .u8 0, .int .u8 0, .int .u8 0, .int .u8 0, .int .u8 0, .int .u8 0, .int .u8 0, .int .u8 0, .int .u8 0, .int .u8 0, .int .u8 0, .int .u8 0, .int .u8 0, .int .u8 0, .int .u8 0, .int .u8 0, .int .u8 0, .int .u8 0, .int .u8 0, .int .u8 0, .int .u8 0, .int .u8 0, .int .u8 0, .int .u8 0, .int .u8 0, .int .u8 0] [(0, 1, (.c (.int .u8 0))), (1, 1, (.c (.int .u8 1))), (2, 1, (.c (.int .u8 56))), (3, 1, (.c (.int .u8 2))), (4, 1, (.c (.int .u8 57))), (5, 1, (.c (.int .u8 49))), (6, 1, (.c (.int .u8 28))), (7, 1, (.c (.int .u8 3))), (8, 1, (.c (.int .u8 61))), (9, 1, (.c (.int .u8 58))), (10, 1, (.c (.int .u8 42))), (11, 1, (.c (.int .u8 50))), (12, 1, (.c (.int .u8 38))), (13, 1, (.c (.int .u8 29))), (14, 1, (.c (.int .u8 17))), (15, 1, (.c (.int .u8 4))), (16, 1, (.c (.int .u8 62))), (17, 1, (.c (.int .u8 47))), (18, 1, (.c (.int .u8 59))), (19, 1, (.c (.int .u8 36))), (20, 1, (.c (.int .u8 45))), (21, 1, (.c (.int .u8 43))), (22, 1, (.c (.int .u8 51))), (23, 1, (.c (.int .u8 22))), (24, 1, (.c (.int .u8 53))), (25, 1, (.c (.int .u8 39))), (26, 1, (.c (.int .u8 33))), (27, 1, (.c (.int .u8 30))), (28, 1, (.c (.int .u8 24))), (29, 1, (.c (.int .u8 18))), (30, 1, (.c (.int .u8 12))), (31, 1, (.c (.int .u8 5))), (32, 1, (.c (.int .u8 63))), (33, 1, (.c (.int .u8 55))), (34, 1, (.c (.int .u8 48))), (35, 1, (.c (.int .u8 27))), (36, 1, (.c (.int .u8 60))), (37, 1, (.c (.int .u8 41))), (38, 1, (.c (.int .u8 37))), (39, 1, (.c (.int .u8 16))), (40, 1, (.c (.int .u8 46))), (41, 1, (.c (.int .u8 35))), (42, 1, (.c (.int .u8 44))), (43, 1, (.c (.int .u8 21))), (44, 1, (.c (.int .u8 52))), (45, 1, (.c (.int .u8 32))), (46, 1, (.c (.int .u8 23))), (47, 1, (.c (.int .u8 11))), (48, 1, (.c (.int .u8 54))), (49, 1, (.c (.int .u8 26))), (50, 1, (.c (.int .u8 40))), (51, 1, (.c (.int .u8 15))), (52, 1, (.c (.int .u8 34))), (53, 1, (.c (.int .u8 20))), (54, 1, (.c (.int .u8 31))), (55, 1, (.c (.int .u8 10))), (56, 1, (.c (.int .u8 25))), (57, 1, (.c (.int .u8 14))), (58, 1, (.c (.int .u8 19))), (59, 1, (.c (.int .u8 9))), (60, 1, (.c (.int .u8 13))), (61, 1, (.c (.int .u8 8))), (62, 1, (.c (.int .u8 7))), (63, 1, (.c (.int .u8 6)))], none⟩, ⟨none, .bad, none⟩])
  (.ops false [⟨some 2, .build [.int .u64 0, .int .u64 0, .int .u64 0, .int .u64 0, .int .u64 0, .int .u64 0, .int .u64 0, .int .u64 0, .int .u64 0, .int .u64 0, .int .u64 0, .int .u64 0, .int .u64 0, .int .u64 0, .int .u64 0, .int .u64 0, .int .u64 0, .int .u64 0, .int .u64 0, .int .u64 0] [(0, 1, (.c (.int .u64 1))), (1, 1, (.c (.int .u64 10))), (2, 1, (.c (.int .u64 100))), (3, 1, (.c (.int .u64 1000))), (4, 1, (.c (.int .u64 10000))), (5, 1, (.c (.int .u64 100000))), (6, 1, (.c (.int .u64 1000000))), (7, 1, (.c (.int .u64 10000000))), (8, 1, (.c (.int .u64 100000000))), (9, 1, (.c (.int .u64 1000000000))), (10, 1, (.c (.int .u64 10000000000))), (11, 1, (.c (.int .u64 100000000000))), (12, 1, (.c (.int .u64 1000000000000))), (13, 1, (.c (.int .u64 10000000000000))), (14, 1, (.c (.int .u64 100000000000000))), (15, 1, (.c (.int .u64 1000000000000000))), (16, 1, (.c (.int .u64 10000000000000000))), (17, 1, (.c (.int .u64 100000000000000000))), (18, 1, (.c (.int .u64 1000000000000000000))), (19, 1, (.c (.int .u64 10000000000000000000)))], none⟩, ⟨none, .bad, none⟩])),
  []⟩

end Go.Proofs.YtnbmpdhgejppaaaDoor
