/- The data-level reading of the functions. -/
import Derived.Test.YtjgefhgkinocmaaGreatNkZ
set_option linter.all false
namespace Go.Proofs.YtjgefhgkinocmaaGreat
open Go.Nk

/- noria/norialaw41.MoveMigrates -/
/- noria/norialaw41.MoveStays -/
def d_norialaw41_MoveStays : DFun := ⟨
  .seq (.ops false [⟨some 2, .bref (.t 0), none⟩, ⟨some 4, .mv (.c (.bool false)), none⟩])
  (.seq (.seq (.ops false [⟨some 11, .load (some 6) (.t 2), none⟩, ⟨some 12, .load (some 6) (.t 2), none⟩, ⟨some 13, .callP 5 [(.t 11), (.t 12), (.c (.nil))], none⟩, ⟨some 14, .un .not (.t 13), none⟩, ⟨some 15, .mv (.t 14), none⟩, ⟨some 16, .load (some 6) (.t 2), some (15, false)⟩, ⟨some 17, .mv (.t 1), some (15, false)⟩, ⟨some 18, .callP 6 [(.t 16), (.t 17)], some (15, false)⟩, ⟨some 19, .un .not (.t 18), some (15, false)⟩, ⟨some 20, .pick (.t 15) (.c (.bool true)) (.t 19), none⟩])
  (.cond (.t 20) (.seq (.ops false [⟨some 21, .callP 7 [], none⟩, ⟨some 4, .mv (.t 21), none⟩])
   (.ret))
   (.skip)))
  (.seq (.ops false [⟨some 23, .load (some 6) (.t 2), none⟩, ⟨some 24, .load (some 6) (.t 2), none⟩, ⟨some 25, .callP 8 [(.t 23), (.t 24), (.c (.nil))], none⟩, ⟨some 22, .mv (.t 25), none⟩, ⟨some 26, .extract 0 (.t 22), none⟩, ⟨some 27, .extract 1 (.t 22), none⟩, ⟨some 28, .extract 2 (.t 22), none⟩, ⟨some 5, .mv (.t 26), none⟩, ⟨some 6, .mv (.t 27), none⟩, ⟨some 7, .mv (.t 28), none⟩])
  (.seq (.ops false [⟨some 30, .mv (.t 5), none⟩, ⟨some 31, .mv (.t 1), none⟩, ⟨some 32, .callP 10 [(.t 30), (.t 31), (.c (.int .i64 0))], none⟩, ⟨some 29, .mv (.t 32), none⟩, ⟨some 33, .extract 0 (.t 29), none⟩, ⟨some 34, .extract 1 (.t 29), none⟩, ⟨some 35, .extract 2 (.t 29), none⟩, ⟨some 8, .mv (.t 33), none⟩, ⟨some 9, .mv (.t 34), none⟩, ⟨some 10, .mv (.t 35), none⟩])
  (.seq (.ops false [⟨some 36, .mv (.t 7), none⟩, ⟨some 37, .callP 9 [(.t 36)], none⟩, ⟨some 38, .bin .eql (.t 37) (.c (.int .i64 0)), none⟩, ⟨some 39, .mv (.t 38), none⟩, ⟨some 40, .mv (.t 10), some (39, true)⟩, ⟨some 41, .callP 9 [(.t 40)], some (39, true)⟩, ⟨some 42, .bin .eql (.t 41) (.c (.int .i64 0)), some (39, true)⟩, ⟨some 43, .pick (.t 39) (.t 42) (.c (.bool false)), none⟩, ⟨some 44, .mv (.t 43), none⟩, ⟨some 45, .mv (.t 9), some (44, true)⟩, ⟨some 46, .bin .eql (.t 45) (.c (.int .i64 0)), some (44, true)⟩, ⟨some 47, .pick (.t 44) (.t 46) (.c (.bool false)), none⟩, ⟨some 48, .mv (.t 47), none⟩, ⟨some 49, .mv (.t 8), some (48, true)⟩, ⟨some 50, .mv (.t 1), some (48, true)⟩, ⟨some 51, .callP 12 [(.t 49), (.t 50)], some (48, true)⟩, ⟨some 52, .pick (.t 48) (.t 51) (.c (.bool false)), none⟩, ⟨some 53, .mv (.t 52), none⟩, ⟨some 54, .callP 7 [], some (53, true)⟩, ⟨some 55, .pick (.t 53) (.t 54) (.c (.bool false)), none⟩, ⟨some 4, .mv (.t 55), none⟩])
  (.ret))))),
  [.t 4]⟩

/- noria/norialaw38.Fit -/
def d_norialaw38_Fit : DFun := ⟨
  .seq (.ops false [⟨some 3, .bref (.t 0), none⟩, ⟨some 4, .bref (.t 1), none⟩, ⟨some 6, .mv (.c (.bool false)), none⟩])
  (.seq (.seq (.ops false [⟨some 8, .load (some 6) (.t 3), none⟩, ⟨some 9, .callP 13 [(.t 8)], none⟩, ⟨some 10, .un .not (.t 9), none⟩, ⟨some 11, .mv (.t 10), none⟩, ⟨some 12, .load (some 6) (.t 4), some (11, false)⟩, ⟨some 13, .callP 13 [(.t 12)], some (11, false)⟩, ⟨some 14, .un .not (.t 13), some (11, false)⟩, ⟨some 15, .pick (.t 11) (.c (.bool true)) (.t 14), none⟩, ⟨some 16, .mv (.t 15), none⟩, ⟨some 17, .mv (.t 2), some (16, false)⟩, ⟨some 18, .callP 14 [(.t 17)], some (16, false)⟩, ⟨some 19, .un .not (.t 18), some (16, false)⟩, ⟨some 20, .pick (.t 16) (.c (.bool true)) (.t 19), none⟩, ⟨some 21, .mv (.t 20), none⟩, ⟨some 22, .load (some 6) (.t 3), some (21, false)⟩, ⟨some 23, .callP 15 [(.t 22)], some (21, false)⟩, ⟨some 24, .un .not (.t 23), some (21, false)⟩, ⟨some 25, .pick (.t 21) (.c (.bool true)) (.t 24), none⟩, ⟨some 26, .mv (.t 25), none⟩, ⟨some 27, .load (some 6) (.t 4), some (26, false)⟩, ⟨some 28, .callP 15 [(.t 27)], some (26, false)⟩, ⟨some 29, .un .not (.t 28), some (26, false)⟩, ⟨some 30, .pick (.t 26) (.c (.bool true)) (.t 29), none⟩])
  (.cond (.t 30) (.seq (.ops false [⟨some 6, .mv (.c (.bool false)), none⟩])
   (.ret))
   (.skip)))
  (.seq (.seq (.ops false [⟨some 7, .mv (.c (.int .i64 0)), none⟩])
  (.block 0 (.loop [2, 7] (some 0) (.seq (.seq (.ops false [⟨some 31, .mv (.t 7), none⟩, ⟨some 32, .mv (.t 2), none⟩, ⟨some 33, .len (.t 32), none⟩, ⟨some 34, .bin .lss (.t 31) (.t 33), none⟩])
    (.cond (.t 34) (.skip)
     (.exit 0)))
    (.seq (.block 1 (.seq (.ops false [⟨some 37, .mv (.t 2), none⟩, ⟨some 38, .mv (.t 7), none⟩, ⟨some 39, .iaddr 7 (.t 37) (.t 38), none⟩, ⟨some 40, .faddr 1 (.t 39), none⟩, ⟨some 41, .load (some 6) (.t 40), none⟩, ⟨some 42, .callP 16 [(.t 41)], none⟩, ⟨some 43, .un .not (.t 42), none⟩])
     (.cond (.t 43) (.seq (.ops false [⟨some 6, .mv (.c (.bool false)), none⟩])
      (.ret))
      (.skip))))
    (.ops false [⟨some 35, .mv (.t 7), none⟩, ⟨some 36, .bin .add (.t 35) (.c (.int .i64 1)), none⟩, ⟨some 7, .mv (.t 36), none⟩]))))))
  (.seq (.ops false [⟨some 6, .mv (.c (.bool true)), none⟩])
  (.ret)))),
  [.t 6]⟩

/- noria/norialaw41.right -/
def d_norialaw41_right : DFun := ⟨
  .seq (.ops false [⟨some 2, .bref (.t 0), none⟩, ⟨some 4, .mv (.c (.bool false)), none⟩])
  (.seq (.ops false [⟨some 7, .faddr 3 (.t 2), none⟩, ⟨some 8, .load none (.t 7), none⟩, ⟨some 9, .mv (.t 1), none⟩, ⟨some 10, .callP 17 [(.t 8), (.t 9)], none⟩, ⟨some 5, .mv (.t 10), none⟩])
  (.seq (.seq (.ops false [⟨some 11, .mv (.t 1), none⟩, ⟨some 12, .len (.t 11), none⟩, ⟨some 13, .faddr 3 (.t 2), none⟩, ⟨some 14, .load none (.t 13), none⟩, ⟨some 15, .callP 18 [(.t 14)], none⟩, ⟨some 16, .bin .neq (.t 12) (.t 15), none⟩, ⟨some 17, .mv (.t 16), none⟩, ⟨some 18, .mv (.t 5), some (17, false)⟩, ⟨some 19, .len (.t 18), some (17, false)⟩, ⟨some 20, .faddr 3 (.t 2), some (17, false)⟩, ⟨some 21, .load none (.t 20), some (17, false)⟩, ⟨some 22, .len (.t 21), some (17, false)⟩, ⟨some 23, .bin .neq (.t 19) (.t 22), some (17, false)⟩, ⟨some 24, .pick (.t 17) (.c (.bool true)) (.t 23), none⟩])
  (.cond (.t 24) (.seq (.ops false [⟨some 4, .mv (.c (.bool false)), none⟩])
   (.ret))
   (.skip)))
  (.seq (.seq (.ops false [⟨some 6, .mv (.c (.int .i64 0)), none⟩])
  (.block 0 (.loop [2, 5, 6] (some 0) (.seq (.seq (.ops false [⟨some 25, .mv (.t 6), none⟩, ⟨some 26, .mv (.t 5), none⟩, ⟨some 27, .len (.t 26), none⟩, ⟨some 28, .bin .lss (.t 25) (.t 27), none⟩])
    (.cond (.t 28) (.skip)
     (.exit 0)))
    (.seq (.block 1 (.seq (.ops true [⟨some 31, .faddr 0 (.t 2), none⟩, ⟨some 32, .load none (.t 31), none⟩, ⟨some 33, .faddr 3 (.t 2), none⟩, ⟨some 34, .load none (.t 33), none⟩, ⟨some 35, .mv (.t 6), none⟩, ⟨some 36, .iaddr 6 (.t 34) (.t 35), none⟩, ⟨some 37, .faddr 1 (.t 36), none⟩, ⟨some 38, .load (some 3) (.t 37), none⟩, ⟨some 39, .mv (.t 5), none⟩, ⟨some 40, .mv (.t 6), none⟩, ⟨some 41, .iaddr 2 (.t 39) (.t 40), none⟩, ⟨some 42, .faddr 1 (.t 41), none⟩, ⟨some 43, .load none (.t 42), none⟩, ⟨some 44, .callP 19 [(.t 32), (.t 38), (.t 43)], none⟩, ⟨some 45, .un .not (.t 44), none⟩])
     (.cond (.t 45) (.seq (.ops false [⟨some 4, .mv (.c (.bool false)), none⟩])
      (.ret))
      (.skip))))
    (.ops false [⟨some 29, .mv (.t 6), none⟩, ⟨some 30, .bin .add (.t 29) (.c (.int .i64 1)), none⟩, ⟨some 6, .mv (.t 30), none⟩]))))))
  (.seq (.ops false [⟨some 4, .mv (.c (.bool true)), none⟩])
  (.ret))))),
  [.t 4]⟩

/- noria/norialaw41.live -/
def d_norialaw41_live : DFun := ⟨
  .seq (.ops false [⟨some 0, .mv (.c (.bool false)), none⟩])
  (.seq (.ops false [⟨some 5, .build [.int .i64 0, .int .i64 0, .int .i64 0, .int .i64 0, .nil, .nil] [(0, 1, (.c (.int .i64 1))), (2, 1, (.c (.int .i64 2))), (3, 1, (.c (.int .i64 1)))], none⟩, ⟨some 6, .bslice true [.int .i64 0] [(some (.c (.int .i64 7))), (some (.c (.int .i64 8))), (some (.c (.int .i64 9)))], none⟩, ⟨some 7, .callP 20 [(.t 5), (.t 6), (.c (.int .i64 0))], none⟩, ⟨some 4, .mv (.t 7), none⟩, ⟨some 8, .extract 0 (.t 4), none⟩, ⟨some 9, .extract 1 (.t 4), none⟩, ⟨some 10, .extract 2 (.t 4), none⟩, ⟨some 1, .mv (.t 8), none⟩, ⟨some 2, .mv (.t 9), none⟩, ⟨some 3, .mv (.t 10), none⟩])
  (.seq (.ops false [⟨some 11, .mv (.t 3), none⟩, ⟨some 12, .callP 9 [(.t 11)], none⟩, ⟨some 13, .bin .eql (.t 12) (.c (.int .i64 0)), none⟩, ⟨some 14, .mv (.t 13), none⟩, ⟨some 15, .mv (.t 2), some (14, true)⟩, ⟨some 16, .bin .eql (.t 15) (.c (.int .i64 0)), some (14, true)⟩, ⟨some 17, .pick (.t 14) (.t 16) (.c (.bool false)), none⟩, ⟨some 18, .mv (.t 17), none⟩, ⟨some 19, .mv (.t 1), some (18, true)⟩, ⟨some 20, .bslice true [.int .i64 0] [(some (.c (.int .i64 8))), (some (.c (.int .i64 9)))], some (18, true)⟩, ⟨some 21, .callP 12 [(.t 19), (.t 20)], some (18, true)⟩, ⟨some 22, .pick (.t 18) (.t 21) (.c (.bool false)), none⟩, ⟨some 0, .mv (.t 22), none⟩])
  (.ret))),
  [.t 0]⟩

/- noria/plan.Make -/
def d_plan_Make : DFun := ⟨
  .seq (.ops false [⟨some 3, .bref (.t 0), none⟩, ⟨some 4, .bref (.t 1), none⟩, ⟨some 6, .mv (.c (.nil)), none⟩, ⟨some 7, .mv (.c (.int .i64 0)), none⟩, ⟨some 8, .mv (.c (.int .i64 0)), none⟩])
  (.seq (.ops false [⟨some 16, .load (some 6) (.t 3), none⟩, ⟨some 17, .load (some 6) (.t 4), none⟩, ⟨some 18, .mv (.t 2), none⟩, ⟨some 19, .callP 21 [(.t 16), (.t 17), (.t 18)], none⟩, ⟨some 15, .mv (.t 19), none⟩, ⟨some 20, .extract 0 (.t 15), none⟩, ⟨some 21, .extract 1 (.t 15), none⟩, ⟨some 9, .mv (.t 20), none⟩, ⟨some 10, .mv (.t 21), none⟩])
  (.seq (.seq (.ops false [⟨some 22, .mv (.t 10), none⟩, ⟨some 23, .bin .neq (.t 22) (.c (.int .i64 0)), none⟩])
  (.cond (.t 23) (.seq (.ops false [⟨some 24, .mv (.t 9), none⟩, ⟨some 25, .mv (.t 10), none⟩, ⟨some 6, .mv (.c (.nil)), none⟩, ⟨some 7, .mv (.t 24), none⟩, ⟨some 8, .mv (.t 25), none⟩])
   (.ret))
   (.skip)))
  (.seq (.ops false [⟨some 11, .mkown 6 (.c (.nil)), none⟩])
  (.seq (.ops false [⟨some 26, .load (some 6) (.t 3), none⟩, ⟨some 27, .load (some 6) (.t 4), none⟩, ⟨some 28, .callP 22 [(.t 26), (.t 27)], none⟩, ⟨some 12, .mv (.t 28), none⟩])
  (.seq (.seq (.ops false [⟨some 29, .faddr 3 (.t 4), none⟩, ⟨some 30, .load none (.t 29), none⟩, ⟨some 31, .len (.t 30), none⟩, ⟨some 32, .mv (.c (.int .i64 0)), none⟩])
  (.block 0 (.loop [2, 3, 4, 9, 11, 12, 30, 31, 32] (some 1) (.seq (.ops false [⟨some 33, .bin .lss (.t 32) (.t 31), none⟩])
    (.seq (.cond (.t 33) (.skip)
     (.exit 0))
    (.seq (.block 1 (.seq (.ops false [⟨some 34, .mv (.t 32), none⟩, ⟨some 35, .iaddr 6 (.t 30) (.t 32), none⟩, ⟨some 36, .load (some 6) (.t 35), none⟩, ⟨some 14, .alloc [.str [], .int .i64 0, .int .i64 0, .int .i64 0, .int .i64 0, .nil], none⟩, ⟨some 13, .mv (.t 34), none⟩, ⟨none, .store 6 (.t 14) (.t 36), none⟩])
     (.ops true [⟨some 37, .mv (.t 11), none⟩, ⟨some 38, .load (some 6) (.t 3), none⟩, ⟨some 39, .load (some 6) (.t 4), none⟩, ⟨some 40, .mv (.t 2), none⟩, ⟨some 41, .load (some 6) (.t 14), none⟩, ⟨some 42, .mv (.t 12), none⟩, ⟨some 43, .mv (.t 13), none⟩, ⟨some 44, .iaddr 2 (.t 42) (.t 43), none⟩, ⟨some 45, .faddr 1 (.t 44), none⟩, ⟨some 46, .load none (.t 45), none⟩, ⟨some 47, .callP 23 [(.t 38), (.t 39), (.t 40), (.t 41), (.t 46)], none⟩, ⟨some 48, .bslice true [.int .i64 0, .int .i64 0, .int .i64 0, .int .i64 0, .nil, .nil] [(some (.t 47))], none⟩, ⟨some 49, .append 6 (.t 37) (.t 48), none⟩, ⟨some 11, .mv (.t 49), none⟩])))
    (.ops false [⟨some 50, .bin .add (.t 32) (.c (.int .i64 1)), none⟩, ⟨some 32, .mv (.t 50), none⟩])))))))
  (.seq (.ops false [⟨some 51, .mv (.t 11), none⟩, ⟨some 52, .mv (.t 9), none⟩, ⟨some 6, .mv (.t 51), none⟩, ⟨some 7, .mv (.t 52), none⟩, ⟨some 8, .mv (.c (.int .i64 0)), none⟩])
  (.ret))))))),
  [.t 6, .t 7, .t 8]⟩

/- noria/norialaw41.num -/
def d_norialaw41_num : DFun := ⟨
  .seq (.ops false [⟨some 2, .mv (.c (.int .i64 0)), none⟩])
  (.seq (.ops false [⟨some 3, .mv (.t 0), none⟩, ⟨some 2, .mv (.t 3), none⟩])
  (.ret)),
  [.t 2]⟩

/- noria/move.All -/
def d_move_All : DFun := ⟨
  .seq (.ops false [⟨some 6, .alloc [.nil], none⟩, ⟨some 7, .alloc [.int .i64 0], none⟩, ⟨some 8, .alloc [.int .i64 0], none⟩])
  (.seq (.seq (.ops false [⟨some 12, .mv (.t 0), none⟩, ⟨some 13, .mv (.t 1), none⟩, ⟨some 14, .len (.t 13), none⟩, ⟨some 15, .callP 24 [(.t 12), (.t 14)], none⟩, ⟨some 16, .un .not (.t 15), none⟩])
  (.cond (.t 16) (.seq (.ops false [⟨none, .store 1 (.t 6) (.c (.nil)), none⟩, ⟨none, .store 1 (.t 7) (.c (.int .i64 0)), none⟩, ⟨none, .store 1 (.t 8) (.c (.int .i64 1)), none⟩])
   (.ret))
   (.skip)))
  (.seq (.ops false [⟨some 9, .alloc [.nil], none⟩])
  (.seq (.ops false [⟨some 10, .alloc [.int .i64 0], none⟩, ⟨none, .store 1 (.t 10) (.c (.int .i64 0)), none⟩])
  (.gown 9 0 1 (.seq (.seq (.ops false [⟨some 17, .mv (.t 0), none⟩, ⟨some 18, .mv (.t 1), none⟩, ⟨some 19, .mv (.t 2), none⟩, ⟨some 20, .callH 25 [(.t 17), (.t 18), (.t 19)], none⟩])
  (.block 0 (.rangeF [6, 7, 8, 9, 10] (some 7) (.t 20) [21] (.ops false [⟨some 11, .alloc [.nil, .int .i64 0, .int .i64 0], none⟩, ⟨none, .store 3 (.t 11) (.t 21), none⟩]) (.block 1 (.seq (.ops false [⟨some 22, .load none (.t 10), none⟩, ⟨some 23, .faddr 1 (.t 11), none⟩, ⟨some 24, .load none (.t 23), none⟩, ⟨some 25, .bin .add (.t 22) (.t 24), none⟩, ⟨none, .store 1 (.t 10) (.t 25), none⟩])
     (.seq (.seq (.ops false [⟨some 26, .faddr 2 (.t 11), none⟩, ⟨some 27, .load none (.t 26), none⟩, ⟨some 28, .bin .neq (.t 27) (.c (.int .i64 0)), none⟩])
     (.cond (.t 28) (.seq (.opsS [(10, 6), (11, 6), (11, 7), (30, 6), (30, 7)] [(0, ⟨some 29, .load none (.t 10), none⟩), (1, ⟨some 30, .faddr 2 (.t 11), none⟩), (2, ⟨some 31, .load none (.t 30), none⟩), (3, ⟨none, .to 6 (.store 1 (.t 6) (.c (.nil))), none⟩), (4, ⟨none, .to 7 (.store 1 (.t 7) (.t 29)), none⟩), (5, ⟨none, .store 1 (.t 8) (.t 31), none⟩)])
      (.ret))
      (.skip)))
     (.ops false [⟨some 32, .load none (.t 9), none⟩, ⟨some 33, .faddr 0 (.t 11), none⟩, ⟨some 34, .load none (.t 33), none⟩, ⟨some 35, .append 1 (.t 32) (.t 34), none⟩, ⟨none, .store 1 (.t 9) (.t 35), none⟩])))))))
  (.seq (.opsS [(10, 6)] [(0, ⟨some 36, .load none (.t 9), none⟩), (1, ⟨some 37, .load none (.t 10), none⟩), (2, ⟨none, .to 6 (.store 1 (.t 6) (.t 36)), none⟩), (3, ⟨none, .store 1 (.t 7) (.t 37), none⟩), (4, ⟨none, .store 1 (.t 8) (.c (.int .i64 0)), none⟩)])
  (.ret))))))),
  [.cell 6 none, .cell 7 none, .cell 8 none]⟩

/- noria/norialaw41.want -/
/- noria/noriaref01.Vals -/
def d_noriaref01_Vals : DFun := ⟨
  .seq (.ops false [⟨some 4, .mv (.c (.bool false)), none⟩])
  (.seq (.seq (.ops false [⟨some 6, .mv (.t 0), none⟩, ⟨some 7, .len (.t 6), none⟩, ⟨some 8, .mv (.t 1), none⟩, ⟨some 9, .len (.t 8), none⟩, ⟨some 10, .bin .neq (.t 7) (.t 9), none⟩])
  (.cond (.t 10) (.seq (.ops false [⟨some 4, .mv (.c (.bool false)), none⟩])
   (.ret))
   (.skip)))
  (.seq (.seq (.ops false [⟨some 5, .mv (.c (.int .i64 0)), none⟩])
  (.block 0 (.loop [0, 1, 5] (some 0) (.seq (.seq (.ops false [⟨some 11, .mv (.t 5), none⟩, ⟨some 12, .mv (.t 0), none⟩, ⟨some 13, .len (.t 12), none⟩, ⟨some 14, .bin .lss (.t 11) (.t 13), none⟩])
    (.cond (.t 14) (.skip)
     (.exit 0)))
    (.seq (.block 1 (.seq (.ops true [⟨some 17, .mv (.t 0), none⟩, ⟨some 18, .mv (.t 5), none⟩, ⟨some 19, .iaddr 1 (.t 17) (.t 18), none⟩, ⟨some 20, .load none (.t 19), none⟩, ⟨some 21, .mv (.t 1), none⟩, ⟨some 22, .mv (.t 5), none⟩, ⟨some 23, .iaddr 1 (.t 21) (.t 22), none⟩, ⟨some 24, .load none (.t 23), none⟩, ⟨some 25, .bin .neq (.t 20) (.t 24), none⟩])
     (.cond (.t 25) (.seq (.ops false [⟨some 4, .mv (.c (.bool false)), none⟩])
      (.ret))
      (.skip))))
    (.ops false [⟨some 15, .mv (.t 5), none⟩, ⟨some 16, .bin .add (.t 15) (.c (.int .i64 1)), none⟩, ⟨some 5, .mv (.t 16), none⟩]))))))
  (.seq (.ops false [⟨some 4, .mv (.c (.bool true)), none⟩])
  (.ret)))),
  [.t 4]⟩

/- noria/noriaref33.Few -/
def d_noriaref33_Few : DFun := ⟨
  .seq (.ops false [⟨some 1, .bref (.t 0), none⟩, ⟨some 2, .mv (.c (.bool false)), none⟩])
  (.seq (.seq (.ops false [⟨some 6, .faddr 0 (.t 1), none⟩, ⟨some 7, .load none (.t 6), none⟩, ⟨some 8, .callP 31 [(.t 7)], none⟩, ⟨some 9, .un .not (.t 8), none⟩, ⟨some 10, .mv (.t 9), none⟩, ⟨some 11, .faddr 1 (.t 1), some (10, false)⟩, ⟨some 12, .load none (.t 11), some (10, false)⟩, ⟨some 13, .len (.t 12), some (10, false)⟩, ⟨some 14, .faddr 2 (.t 1), some (10, false)⟩, ⟨some 15, .load none (.t 14), some (10, false)⟩, ⟨some 16, .len (.t 15), some (10, false)⟩, ⟨some 17, .bin .add (.t 13) (.t 16), some (10, false)⟩, ⟨some 18, .bin .gtr (.t 17) (.c (.int .i64 50)), some (10, false)⟩, ⟨some 19, .pick (.t 10) (.c (.bool true)) (.t 18), none⟩, ⟨some 20, .mv (.t 19), none⟩, ⟨some 21, .faddr 3 (.t 1), some (20, false)⟩, ⟨some 22, .load none (.t 21), some (20, false)⟩, ⟨some 23, .len (.t 22), some (20, false)⟩, ⟨some 24, .bin .gtr (.t 23) (.c (.int .i64 150)), some (20, false)⟩, ⟨some 25, .pick (.t 20) (.c (.bool true)) (.t 24), none⟩, ⟨some 26, .mv (.t 25), none⟩, ⟨some 27, .faddr 4 (.t 1), some (26, false)⟩, ⟨some 28, .load none (.t 27), some (26, false)⟩, ⟨some 29, .len (.t 28), some (26, false)⟩, ⟨some 30, .bin .gtr (.t 29) (.c (.int .i64 1100)), some (26, false)⟩, ⟨some 31, .pick (.t 26) (.c (.bool true)) (.t 30), none⟩, ⟨some 32, .mv (.t 31), none⟩, ⟨some 33, .faddr 5 (.t 1), some (32, false)⟩, ⟨some 34, .load none (.t 33), some (32, false)⟩, ⟨some 35, .len (.t 34), some (32, false)⟩, ⟨some 36, .bin .gtr (.t 35) (.c (.int .i64 800)), some (32, false)⟩, ⟨some 37, .pick (.t 32) (.c (.bool true)) (.t 36), none⟩])
  (.cond (.t 37) (.seq (.ops false [⟨some 2, .mv (.c (.bool false)), none⟩])
   (.ret))
   (.skip)))
  (.seq (.opsP [(1, ⟨some 39, .im (.faddr 1 (.t 1)), none⟩), (2, ⟨some 40, .im (.load none (.t 39)), none⟩), (4, ⟨some 42, .im (.faddr 2 (.t 1)), none⟩), (5, ⟨some 43, .im (.load none (.t 42)), none⟩), (0, ⟨some 38, .bslice false [.str [], .int .i64 0, .int .i64 0, .int .i64 0] [], none⟩), (3, ⟨some 41, .append 4 (.t 38) (.t 40), none⟩), (6, ⟨some 44, .append 4 (.t 41) (.t 43), none⟩), (7, ⟨some 3, .mv (.t 44), none⟩)])
  (.seq (.seq (.ops false [⟨some 4, .mv (.c (.int .i64 0)), none⟩])
  (.block 0 (.loop [1, 3, 4] (some 1) (.seq (.seq (.ops false [⟨some 45, .mv (.t 4), none⟩, ⟨some 46, .mv (.t 3), none⟩, ⟨some 47, .len (.t 46), none⟩, ⟨some 48, .bin .lss (.t 45) (.t 47), none⟩])
    (.cond (.t 48) (.skip)
     (.exit 0)))
    (.seq (.block 1 (.seq (.ops false [⟨some 51, .mv (.t 3), none⟩, ⟨some 52, .mv (.t 4), none⟩, ⟨some 53, .iaddr 4 (.t 51) (.t 52), none⟩, ⟨some 54, .faddr 0 (.t 53), none⟩, ⟨some 55, .load none (.t 54), none⟩, ⟨some 56, .lenS (.t 55), none⟩, ⟨some 57, .bin .gtr (.t 56) (.c (.int .i64 200)), none⟩])
     (.cond (.t 57) (.seq (.ops false [⟨some 2, .mv (.c (.bool false)), none⟩])
      (.ret))
      (.skip))))
    (.ops false [⟨some 49, .mv (.t 4), none⟩, ⟨some 50, .bin .add (.t 49) (.c (.int .i64 1)), none⟩, ⟨some 4, .mv (.t 50), none⟩]))))))
  (.seq (.seq (.ops false [⟨some 5, .mv (.c (.int .i64 0)), none⟩])
  (.block 2 (.loop [1, 5] (some 1) (.seq (.seq (.ops false [⟨some 58, .mv (.t 5), none⟩, ⟨some 59, .faddr 3 (.t 1), none⟩, ⟨some 60, .load none (.t 59), none⟩, ⟨some 61, .len (.t 60), none⟩, ⟨some 62, .bin .lss (.t 58) (.t 61), none⟩])
    (.cond (.t 62) (.skip)
     (.exit 2)))
    (.seq (.block 3 (.seq (.ops false [⟨some 65, .faddr 3 (.t 1), none⟩, ⟨some 66, .load none (.t 65), none⟩, ⟨some 67, .mv (.t 5), none⟩, ⟨some 68, .iaddr 6 (.t 66) (.t 67), none⟩, ⟨some 69, .faddr 0 (.t 68), none⟩, ⟨some 70, .load none (.t 69), none⟩, ⟨some 71, .lenS (.t 70), none⟩, ⟨some 72, .bin .gtr (.t 71) (.c (.int .i64 300)), none⟩, ⟨some 73, .mv (.t 72), none⟩, ⟨some 74, .faddr 3 (.t 1), some (73, false)⟩, ⟨some 75, .load none (.t 74), some (73, false)⟩, ⟨some 76, .mv (.t 5), some (73, false)⟩, ⟨some 77, .iaddr 6 (.t 75) (.t 76), some (73, false)⟩, ⟨some 78, .faddr 5 (.t 77), some (73, false)⟩, ⟨some 79, .load none (.t 78), some (73, false)⟩, ⟨some 80, .len (.t 79), some (73, false)⟩, ⟨some 81, .bin .gtr (.t 80) (.c (.int .i64 300)), some (73, false)⟩, ⟨some 82, .pick (.t 73) (.c (.bool true)) (.t 81), none⟩])
     (.cond (.t 82) (.seq (.ops false [⟨some 2, .mv (.c (.bool false)), none⟩])
      (.ret))
      (.skip))))
    (.ops false [⟨some 63, .mv (.t 5), none⟩, ⟨some 64, .bin .add (.t 63) (.c (.int .i64 1)), none⟩, ⟨some 5, .mv (.t 64), none⟩]))))))
  (.seq (.ops false [⟨some 2, .mv (.c (.bool true)), none⟩])
  (.ret)))))),
  [.t 2]⟩

/- noria/noriaref37.Few -/
def d_noriaref37_Few : DFun := ⟨
  .seq (.ops false [⟨some 2, .mv (.c (.bool false)), none⟩])
  (.seq (.seq (.ops false [⟨some 3, .mv (.c (.int .i64 0)), none⟩])
  (.block 0 (.loop [0, 3] (some 0) (.seq (.seq (.ops false [⟨some 4, .mv (.t 3), none⟩, ⟨some 5, .mv (.t 0), none⟩, ⟨some 6, .len (.t 5), none⟩, ⟨some 7, .bin .lss (.t 4) (.t 6), none⟩, ⟨some 8, .mv (.t 7), none⟩, ⟨some 9, .mv (.t 3), some (8, true)⟩, ⟨some 10, .bin .lss (.t 9) (.c (.int .i64 60)), some (8, true)⟩, ⟨some 11, .pick (.t 8) (.t 10) (.c (.bool false)), none⟩])
    (.cond (.t 11) (.skip)
     (.exit 0)))
    (.seq (.block 1 (.seq (.ops false [⟨some 14, .mv (.t 0), none⟩, ⟨some 15, .mv (.t 3), none⟩, ⟨some 16, .iaddr 7 (.t 14) (.t 15), none⟩, ⟨some 17, .faddr 0 (.t 16), none⟩, ⟨some 18, .load none (.t 17), none⟩, ⟨some 19, .lenS (.t 18), none⟩, ⟨some 20, .bin .gtr (.t 19) (.c (.int .i64 300)), none⟩, ⟨some 21, .mv (.t 20), none⟩, ⟨some 22, .mv (.t 0), some (21, false)⟩, ⟨some 23, .mv (.t 3), some (21, false)⟩, ⟨some 24, .iaddr 7 (.t 22) (.t 23), some (21, false)⟩, ⟨some 25, .faddr 1 (.t 24), some (21, false)⟩, ⟨some 26, .load (some 6) (.t 25), some (21, false)⟩, ⟨some 27, .callP 32 [(.t 26)], some (21, false)⟩, ⟨some 28, .un .not (.t 27), some (21, false)⟩, ⟨some 29, .pick (.t 21) (.c (.bool true)) (.t 28), none⟩])
     (.cond (.t 29) (.seq (.ops false [⟨some 2, .mv (.c (.bool false)), none⟩])
      (.ret))
      (.skip))))
    (.ops false [⟨some 12, .mv (.t 3), none⟩, ⟨some 13, .bin .add (.t 12) (.c (.int .i64 1)), none⟩, ⟨some 3, .mv (.t 13), none⟩]))))))
  (.seq (.ops false [⟨some 30, .mv (.t 0), none⟩, ⟨some 31, .len (.t 30), none⟩, ⟨some 32, .bin .leq (.t 31) (.c (.int .i64 50)), none⟩, ⟨some 2, .mv (.t 32), none⟩])
  (.ret))),
  [.t 2]⟩

/- noria/noriaref34.Form -/
def d_noriaref34_Form : DFun := ⟨
  .seq (.ops false [⟨some 1, .bref (.t 0), none⟩, ⟨some 2, .mv (.c (.bool false)), none⟩])
  (.seq (.seq (.ops false [⟨some 6, .faddr 0 (.t 1), none⟩, ⟨some 7, .load none (.t 6), none⟩, ⟨some 8, .callP 33 [(.t 7)], none⟩, ⟨some 9, .bin .neq (.t 8) (.c (.int .i64 0)), none⟩, ⟨some 10, .mv (.t 9), none⟩, ⟨some 11, .faddr 1 (.t 1), some (10, false)⟩, ⟨some 12, .load none (.t 11), some (10, false)⟩, ⟨some 13, .len (.t 12), some (10, false)⟩, ⟨some 14, .bin .gtr (.t 13) (.c (.int .i64 6)), some (10, false)⟩, ⟨some 15, .pick (.t 10) (.c (.bool true)) (.t 14), none⟩, ⟨some 16, .mv (.t 15), none⟩, ⟨some 17, .faddr 2 (.t 1), some (16, false)⟩, ⟨some 18, .load none (.t 17), some (16, false)⟩, ⟨some 19, .len (.t 18), some (16, false)⟩, ⟨some 20, .bin .lss (.t 19) (.c (.int .i64 1)), some (16, false)⟩, ⟨some 21, .pick (.t 16) (.c (.bool true)) (.t 20), none⟩, ⟨some 22, .mv (.t 21), none⟩, ⟨some 23, .faddr 2 (.t 1), some (22, false)⟩, ⟨some 24, .load none (.t 23), some (22, false)⟩, ⟨some 25, .len (.t 24), some (22, false)⟩, ⟨some 26, .bin .gtr (.t 25) (.c (.int .i64 6)), some (22, false)⟩, ⟨some 27, .pick (.t 22) (.c (.bool true)) (.t 26), none⟩, ⟨some 28, .mv (.t 27), none⟩, ⟨some 29, .faddr 0 (.t 1), some (28, false)⟩, ⟨some 30, .load none (.t 29), some (28, false)⟩, ⟨some 31, .faddr 3 (.t 1), some (28, false)⟩, ⟨some 32, .load none (.t 31), some (28, false)⟩, ⟨some 33, .callP 34 [(.t 30), (.t 32)], some (28, false)⟩, ⟨some 34, .un .not (.t 33), some (28, false)⟩, ⟨some 35, .pick (.t 28) (.c (.bool true)) (.t 34), none⟩])
  (.cond (.t 35) (.seq (.ops false [⟨some 2, .mv (.c (.bool false)), none⟩])
   (.ret))
   (.skip)))
  (.seq (.opsP [(1, ⟨some 37, .im (.faddr 1 (.t 1)), none⟩), (2, ⟨some 38, .im (.load none (.t 37)), none⟩), (4, ⟨some 40, .im (.faddr 2 (.t 1)), none⟩), (5, ⟨some 41, .im (.load none (.t 40)), none⟩), (0, ⟨some 36, .bslice false [.str [], .int .i64 0, .int .i64 0, .int .i64 0] [], none⟩), (3, ⟨some 39, .append 4 (.t 36) (.t 38), none⟩), (6, ⟨some 42, .append 4 (.t 39) (.t 41), none⟩), (7, ⟨some 3, .mv (.t 42), none⟩)])
  (.seq (.ops false [⟨some 43, .bslice false [.str []] [], none⟩, ⟨some 4, .mv (.t 43), none⟩])
  (.seq (.seq (.ops false [⟨some 5, .mv (.c (.int .i64 0)), none⟩])
  (.block 0 (.loop [1, 3, 4, 5] (some 2) (.seq (.seq (.ops false [⟨some 44, .mv (.t 5), none⟩, ⟨some 45, .mv (.t 3), none⟩, ⟨some 46, .len (.t 45), none⟩, ⟨some 47, .bin .lss (.t 44) (.t 46), none⟩])
    (.cond (.t 47) (.skip)
     (.exit 0)))
    (.seq (.block 1 (.seq (.seq (.ops true [⟨some 50, .mv (.t 3), none⟩, ⟨some 51, .mv (.t 5), none⟩, ⟨some 52, .iaddr 4 (.t 50) (.t 51), none⟩, ⟨some 53, .faddr 0 (.t 52), none⟩, ⟨some 54, .load none (.t 53), none⟩, ⟨some 55, .callP 35 [(.t 54)], none⟩, ⟨some 56, .un .not (.t 55), none⟩, ⟨some 57, .mv (.t 56), none⟩, ⟨some 58, .faddr 0 (.t 1), some (57, false)⟩, ⟨some 59, .load none (.t 58), some (57, false)⟩, ⟨some 60, .mv (.t 3), some (57, false)⟩, ⟨some 61, .mv (.t 5), some (57, false)⟩, ⟨some 62, .iaddr 4 (.t 60) (.t 61), some (57, false)⟩, ⟨some 63, .faddr 1 (.t 62), some (57, false)⟩, ⟨some 64, .load (some 3) (.t 63), some (57, false)⟩, ⟨some 65, .callP 36 [(.t 59), (.t 64)], some (57, false)⟩, ⟨some 66, .un .not (.t 65), some (57, false)⟩, ⟨some 67, .pick (.t 57) (.c (.bool true)) (.t 66), none⟩])
     (.cond (.t 67) (.seq (.ops false [⟨some 2, .mv (.c (.bool false)), none⟩])
      (.ret))
      (.skip)))
     (.ops false [⟨some 68, .mv (.t 4), none⟩, ⟨some 69, .mv (.t 3), none⟩, ⟨some 70, .mv (.t 5), none⟩, ⟨some 71, .iaddr 4 (.t 69) (.t 70), none⟩, ⟨some 72, .faddr 0 (.t 71), none⟩, ⟨some 73, .load none (.t 72), none⟩, ⟨some 74, .bslice true [.str []] [(some (.t 73))], none⟩, ⟨some 75, .append 1 (.t 68) (.t 74), none⟩, ⟨some 4, .mv (.t 75), none⟩])))
    (.ops false [⟨some 48, .mv (.t 5), none⟩, ⟨some 49, .bin .add (.t 48) (.c (.int .i64 1)), none⟩, ⟨some 5, .mv (.t 49), none⟩]))))))
  (.seq (.ops false [⟨some 76, .mv (.t 4), none⟩, ⟨some 77, .callP 37 [(.t 76)], none⟩, ⟨some 78, .mv (.t 77), none⟩, ⟨some 79, .load (some 6) (.t 1), some (78, true)⟩, ⟨some 80, .callP 39 [(.t 79)], some (78, true)⟩, ⟨some 81, .callP 38 [(.t 80)], some (78, true)⟩, ⟨some 82, .pick (.t 78) (.t 81) (.c (.bool false)), none⟩, ⟨some 2, .mv (.t 82), none⟩])
  (.ret)))))),
  [.t 2]⟩

/- noria/noriaref09.Right -/
/- noria/noriaref27.Read -/
def d_noriaref27_Read : DFun := ⟨
  .seq (.ops false [⟨some 4, .mv (.c (.nil)), none⟩])
  (.seq (.ops false [⟨some 8, .bslice false [.str [], .nil] [], none⟩, ⟨some 5, .mv (.t 8), none⟩])
  (.seq (.seq (.ops false [⟨some 6, .mv (.c (.int .i64 0)), none⟩])
  (.block 0 (.loop [0, 1, 5, 6] (some 1) (.seq (.seq (.ops false [⟨some 9, .mv (.t 6), none⟩, ⟨some 10, .mv (.t 0), none⟩, ⟨some 11, .len (.t 10), none⟩, ⟨some 12, .bin .lss (.t 9) (.t 11), none⟩])
    (.cond (.t 12) (.skip)
     (.exit 0)))
    (.seq (.block 1 (.seq (.ops false [⟨some 15, .mv (.t 0), none⟩, ⟨some 16, .mv (.t 6), none⟩, ⟨some 17, .iaddr 6 (.t 15) (.t 16), none⟩, ⟨some 18, .faddr 1 (.t 17), none⟩, ⟨some 19, .load (some 3) (.t 18), none⟩, ⟨some 20, .callP 30 [(.t 19)], none⟩, ⟨some 7, .mv (.t 20), none⟩])
     (.seq (.seq (.ops false [⟨some 21, .mv (.t 0), none⟩, ⟨some 22, .mv (.t 6), none⟩, ⟨some 23, .iaddr 6 (.t 21) (.t 22), none⟩, ⟨some 24, .faddr 4 (.t 23), none⟩, ⟨some 25, .load none (.t 24), none⟩, ⟨some 26, .bin .lss (.t 25) (.c (.int .i64 0)), none⟩, ⟨some 27, .mv (.t 26), none⟩, ⟨some 28, .mv (.t 0), some (27, false)⟩, ⟨some 29, .mv (.t 6), some (27, false)⟩, ⟨some 30, .iaddr 6 (.t 28) (.t 29), some (27, false)⟩, ⟨some 31, .faddr 4 (.t 30), some (27, false)⟩, ⟨some 32, .load none (.t 31), some (27, false)⟩, ⟨some 33, .mv (.t 1), some (27, false)⟩, ⟨some 34, .len (.t 33), some (27, false)⟩, ⟨some 35, .mv (.t 7), some (27, false)⟩, ⟨some 36, .bin .sub (.t 34) (.t 35), some (27, false)⟩, ⟨some 37, .bin .gtr (.t 32) (.t 36), some (27, false)⟩, ⟨some 38, .pick (.t 27) (.c (.bool true)) (.t 37), none⟩])
     (.cond (.t 38) (.seq (.ops false [⟨some 4, .mv (.c (.nil)), none⟩])
      (.ret))
      (.skip)))
     (.ops true [⟨some 39, .mv (.t 5), none⟩, ⟨some 40, .mv (.t 0), none⟩, ⟨some 41, .mv (.t 6), none⟩, ⟨some 42, .im (.iaddr 6 (.t 40) (.t 41)), none⟩, ⟨some 43, .im (.faddr 0 (.t 42)), none⟩, ⟨some 44, .im (.load none (.t 43)), none⟩, ⟨some 45, .mv (.t 1), none⟩, ⟨some 46, .mv (.t 0), none⟩, ⟨some 47, .mv (.t 6), none⟩, ⟨some 48, .im (.iaddr 6 (.t 46) (.t 47)), none⟩, ⟨some 49, .im (.faddr 4 (.t 48)), none⟩, ⟨some 50, .im (.load none (.t 49)), none⟩, ⟨some 51, .mv (.t 0), none⟩, ⟨some 52, .mv (.t 6), none⟩, ⟨some 53, .im (.iaddr 6 (.t 51) (.t 52)), none⟩, ⟨some 54, .im (.faddr 4 (.t 53)), none⟩, ⟨some 55, .im (.load none (.t 54)), none⟩, ⟨some 56, .mv (.t 7), none⟩, ⟨some 57, .bin .add (.t 55) (.t 56), none⟩, ⟨some 58, .slice 1 (.t 45) (some (.t 50)) (some (.t 57)) none, none⟩, ⟨some 59, .build [.str [], .nil] [(0, 1, (.t 44)), (1, 1, (.t 58))], none⟩, ⟨some 60, .bslice true [.str [], .nil] [(some (.t 59))], none⟩, ⟨some 61, .append 2 (.t 39) (.t 60), none⟩, ⟨some 5, .mv (.t 61), none⟩]))))
    (.ops false [⟨some 13, .mv (.t 6), none⟩, ⟨some 14, .bin .add (.t 13) (.c (.int .i64 1)), none⟩, ⟨some 6, .mv (.t 14), none⟩]))))))
  (.seq (.ops false [⟨some 62, .mv (.t 5), none⟩, ⟨some 4, .mv (.t 62), none⟩])
  (.ret)))),
  [.t 4]⟩

/- noria/noriaref27.Cells -/
def d_noriaref27_Cells : DFun := ⟨
  .seq (.ops false [⟨some 2, .mv (.c (.int .i64 0)), none⟩])
  (.seq (.ops false [⟨some 3, .mv (.c (.int .i64 0)), none⟩])
  (.seq (.seq (.ops false [⟨some 4, .mv (.c (.int .i64 0)), none⟩])
  (.block 0 (.loop [0, 3, 4] (some 0) (.seq (.seq (.ops false [⟨some 5, .mv (.t 4), none⟩, ⟨some 6, .mv (.t 0), none⟩, ⟨some 7, .len (.t 6), none⟩, ⟨some 8, .bin .lss (.t 5) (.t 7), none⟩])
    (.cond (.t 8) (.skip)
     (.exit 0)))
    (.seq (.block 1 (.ops false [⟨some 11, .mv (.t 3), none⟩, ⟨some 12, .mv (.t 0), none⟩, ⟨some 13, .mv (.t 4), none⟩, ⟨some 14, .iaddr 6 (.t 12) (.t 13), none⟩, ⟨some 15, .faddr 1 (.t 14), none⟩, ⟨some 16, .load (some 3) (.t 15), none⟩, ⟨some 17, .callP 30 [(.t 16)], none⟩, ⟨some 18, .bin .add (.t 11) (.t 17), none⟩, ⟨some 3, .mv (.t 18), none⟩]))
    (.ops false [⟨some 9, .mv (.t 4), none⟩, ⟨some 10, .bin .add (.t 9) (.c (.int .i64 1)), none⟩, ⟨some 4, .mv (.t 10), none⟩]))))))
  (.seq (.ops false [⟨some 19, .mv (.t 3), none⟩, ⟨some 2, .mv (.t 19), none⟩])
  (.ret)))),
  [.t 2]⟩

/- noria/noriaref06.Right -/
def d_noriaref06_Right : DFun := ⟨
  .seq (.ops false [⟨some 4, .box (.t 1), none⟩, ⟨some 6, .mv (.c (.bool false)), none⟩])
  (.seq (.seq (.ops false [⟨some 8, .mv (.t 0), none⟩, ⟨some 9, .load (some 3) (.t 4), none⟩, ⟨some 10, .callP 36 [(.t 8), (.t 9)], none⟩, ⟨some 11, .un .not (.t 10), none⟩, ⟨some 12, .mv (.t 11), none⟩, ⟨some 13, .mv (.t 2), some (12, false)⟩, ⟨some 14, .len (.t 13), some (12, false)⟩, ⟨some 15, .load (some 3) (.t 4), some (12, false)⟩, ⟨some 16, .callP 30 [(.t 15)], some (12, false)⟩, ⟨some 17, .bin .neq (.t 14) (.t 16), some (12, false)⟩, ⟨some 18, .pick (.t 12) (.c (.bool true)) (.t 17), none⟩])
  (.cond (.t 18) (.seq (.ops false [⟨some 6, .mv (.c (.bool false)), none⟩])
   (.ret))
   (.skip)))
  (.seq (.seq (.ops false [⟨some 7, .mv (.c (.int .i64 0)), none⟩])
  (.block 0 (.loop [0, 2, 4, 7] (some 1) (.seq (.seq (.ops false [⟨some 19, .mv (.t 7), none⟩, ⟨some 20, .mv (.t 2), none⟩, ⟨some 21, .len (.t 20), none⟩, ⟨some 22, .bin .lss (.t 19) (.t 21), none⟩])
    (.cond (.t 22) (.skip)
     (.exit 0)))
    (.seq (.block 1 (.seq (.ops true [⟨some 25, .mv (.t 0), none⟩, ⟨some 26, .load (some 3) (.t 4), none⟩, ⟨some 27, .mv (.t 2), none⟩, ⟨some 28, .mv (.t 7), none⟩, ⟨some 29, .iaddr 1 (.t 27) (.t 28), none⟩, ⟨some 30, .load none (.t 29), none⟩, ⟨some 31, .callP 44 [(.t 25), (.t 26), (.t 30)], none⟩, ⟨some 32, .un .not (.t 31), none⟩])
     (.cond (.t 32) (.seq (.ops false [⟨some 6, .mv (.c (.bool false)), none⟩])
      (.ret))
      (.skip))))
    (.ops false [⟨some 23, .mv (.t 7), none⟩, ⟨some 24, .bin .add (.t 23) (.c (.int .i64 1)), none⟩, ⟨some 7, .mv (.t 24), none⟩]))))))
  (.seq (.ops false [⟨some 6, .mv (.c (.bool true)), none⟩])
  (.ret)))),
  [.t 6]⟩

/- noria/move.One -/
def d_move_One : DFun := ⟨
  .seq (.ops false [⟨some 3, .bref (.t 0), none⟩, ⟨some 6, .mv (.c (.nil)), none⟩, ⟨some 7, .mv (.c (.int .i64 0)), none⟩, ⟨some 8, .mv (.c (.int .i64 0)), none⟩])
  (.seq (.ops false [⟨some 11, .load (some 6) (.t 3), none⟩, ⟨some 9, .alloc [.int .i64 0, .int .i64 0, .int .i64 0, .int .i64 0, .nil, .nil], none⟩, ⟨none, .store 6 (.t 9) (.t 11), none⟩])
  (.seq (.ops false [⟨some 12, .faddr 1 (.t 9), none⟩, ⟨none, .store 1 (.t 12) (.c (.int .i64 0)), none⟩])
  (.seq (.seq (.ops false [⟨some 13, .load (some 6) (.t 9), none⟩, ⟨some 14, .bslice true [.int .i64 0, .int .i64 0, .int .i64 0, .int .i64 0, .nil, .nil] [(some (.t 13))], none⟩, ⟨some 15, .mv (.t 1), none⟩, ⟨some 16, .len (.t 15), none⟩, ⟨some 17, .callP 24 [(.t 14), (.t 16)], none⟩, ⟨some 18, .un .not (.t 17), none⟩])
  (.cond (.t 18) (.seq (.ops false [⟨some 6, .mv (.c (.nil)), none⟩, ⟨some 7, .mv (.c (.int .i64 0)), none⟩, ⟨some 8, .mv (.c (.int .i64 1)), none⟩])
   (.ret))
   (.skip)))
  (.seq (.ops false [⟨some 19, .load (some 6) (.t 3), none⟩, ⟨some 20, .mv (.t 1), none⟩, ⟨some 21, .mv (.t 2), none⟩, ⟨some 22, .callP 45 [(.t 19), (.t 20), (.t 21)], none⟩, ⟨some 10, .alloc [.nil, .int .i64 0, .int .i64 0], none⟩, ⟨none, .store 3 (.t 10) (.t 22), none⟩])
  (.seq (.ops true [⟨some 23, .faddr 0 (.t 10), none⟩, ⟨some 24, .load none (.t 23), none⟩, ⟨some 25, .faddr 1 (.t 10), none⟩, ⟨some 26, .load none (.t 25), none⟩, ⟨some 27, .faddr 2 (.t 10), none⟩, ⟨some 28, .load none (.t 27), none⟩, ⟨some 6, .mv (.t 24), none⟩, ⟨some 7, .mv (.t 26), none⟩, ⟨some 8, .mv (.t 28), none⟩])
  (.ret)))))),
  [.t 6, .t 7, .t 8]⟩

/- noria/mtype.Check -/
def d_mtype_Check : DFun := ⟨
  .seq (.ops false [⟨some 3, .bref (.t 0), none⟩, ⟨some 4, .bref (.t 1), none⟩, ⟨some 6, .mv (.c (.int .i64 0)), none⟩, ⟨some 7, .mv (.c (.int .i64 0)), none⟩])
  (.seq (.seq (.ops false [⟨some 11, .mv (.t 2), none⟩, ⟨some 12, .len (.t 11), none⟩, ⟨some 13, .mv (.c (.int .i64 0)), none⟩])
  (.block 0 (.loop [2, 3, 4, 11, 12, 13] (some 0) (.seq (.ops false [⟨some 14, .bin .lss (.t 13) (.t 12), none⟩])
    (.seq (.cond (.t 14) (.skip)
     (.exit 0))
    (.seq (.block 1 (.seq (.ops false [⟨some 15, .mv (.t 13), none⟩, ⟨some 16, .iaddr 7 (.t 11) (.t 13), none⟩, ⟨some 17, .load (some 7) (.t 16), none⟩, ⟨some 9, .alloc [.str [], .int .i64 0, .int .i64 0, .str [], .int .i64 0, .nil, .nil], none⟩, ⟨some 8, .mv (.t 15), none⟩, ⟨none, .store 7 (.t 9) (.t 17), none⟩])
     (.seq (.ops false [⟨some 18, .load (some 6) (.t 3), none⟩, ⟨some 19, .load (some 6) (.t 4), none⟩, ⟨some 20, .build [.nil, .nil, .nil, .nil, .nil, .nil, .nil, .nil, .nil, .nil, .nil, .nil] [(0, 6, (.t 18)), (6, 6, (.t 19))], none⟩, ⟨some 21, .load (some 7) (.t 9), none⟩, ⟨some 22, .callP 46 [(.t 20), (.t 21)], none⟩, ⟨some 10, .mv (.t 22), none⟩])
     (.seq (.ops false [⟨some 23, .mv (.t 10), none⟩, ⟨some 24, .bin .neq (.t 23) (.c (.int .i64 0)), none⟩])
     (.cond (.t 24) (.seq (.ops false [⟨some 25, .mv (.t 8), none⟩, ⟨some 26, .mv (.t 10), none⟩, ⟨some 6, .mv (.t 25), none⟩, ⟨some 7, .mv (.t 26), none⟩])
      (.ret))
      (.skip))))))
    (.ops false [⟨some 27, .bin .add (.t 13) (.c (.int .i64 1)), none⟩, ⟨some 13, .mv (.t 27), none⟩])))))))
  (.seq (.ops false [⟨some 28, .mv (.t 2), none⟩, ⟨some 29, .len (.t 28), none⟩, ⟨some 6, .mv (.t 29), none⟩, ⟨some 7, .mv (.c (.int .i64 0)), none⟩])
  (.ret))),
  [.t 6, .t 7]⟩

/- noria/differ.Diff -/
def d_differ_Diff : DFun := ⟨
  .seq (.ops false [⟨some 2, .box (.t 0), none⟩, ⟨some 3, .box (.t 1), none⟩, ⟨some 4, .mv (.c (.nil)), none⟩])
  (.seq (.ops false [⟨some 5, .mkown 2 (.c (.nil)), none⟩])
  (.seq (.seq (.ops false [⟨some 10, .faddr 3 (.t 3), none⟩, ⟨some 11, .load none (.t 10), none⟩, ⟨some 12, .len (.t 11), none⟩, ⟨some 13, .mv (.c (.int .i64 0)), none⟩])
  (.block 0 (.loop [2, 3, 5, 11, 12, 13] (some 3) (.seq (.ops false [⟨some 14, .bin .lss (.t 13) (.t 12), none⟩])
    (.seq (.cond (.t 14) (.skip)
     (.exit 0))
    (.seq (.block 1 (.seq (.ops false [⟨some 15, .iaddr 6 (.t 11) (.t 13), none⟩, ⟨some 16, .load (some 6) (.t 15), none⟩, ⟨some 7, .alloc [.str [], .int .i64 0, .int .i64 0, .int .i64 0, .int .i64 0, .nil], none⟩, ⟨none, .store 6 (.t 7) (.t 16), none⟩])
     (.ops true [⟨some 17, .mv (.t 5), none⟩, ⟨some 18, .faddr 0 (.t 7), none⟩, ⟨some 19, .load none (.t 18), none⟩, ⟨some 20, .load (some 6) (.t 2), none⟩, ⟨some 21, .load (some 6) (.t 3), none⟩, ⟨some 22, .load (some 6) (.t 7), none⟩, ⟨some 23, .rd (.callP 47 [(.t 20), (.t 21), (.t 22)]), none⟩, ⟨some 24, .build [.str [], .int .i64 0] [(0, 1, (.t 19)), (1, 1, (.t 23))], none⟩, ⟨some 25, .bslice true [.str [], .int .i64 0] [(some (.t 24))], none⟩, ⟨some 26, .append 2 (.t 17) (.t 25), none⟩, ⟨some 5, .mv (.t 26), none⟩])))
    (.ops false [⟨some 27, .bin .add (.t 13) (.c (.int .i64 1)), none⟩, ⟨some 13, .mv (.t 27), none⟩])))))))
  (.seq (.seq (.ops false [⟨some 28, .faddr 3 (.t 2), none⟩, ⟨some 29, .load none (.t 28), none⟩, ⟨some 30, .len (.t 29), none⟩, ⟨some 31, .mv (.c (.int .i64 0)), none⟩])
  (.block 2 (.loop [3, 5, 29, 30, 31] (some 3) (.seq (.ops false [⟨some 32, .bin .lss (.t 31) (.t 30), none⟩])
    (.seq (.cond (.t 32) (.skip)
     (.exit 2))
    (.seq (.block 3 (.seq (.ops false [⟨some 33, .iaddr 6 (.t 29) (.t 31), none⟩, ⟨some 34, .load (some 6) (.t 33), none⟩, ⟨some 9, .alloc [.str [], .int .i64 0, .int .i64 0, .int .i64 0, .int .i64 0, .nil], none⟩, ⟨none, .store 6 (.t 9) (.t 34), none⟩])
     (.seq (.ops false [⟨some 35, .faddr 3 (.t 3), none⟩, ⟨some 36, .load none (.t 35), none⟩, ⟨some 37, .faddr 0 (.t 9), none⟩, ⟨some 38, .load none (.t 37), none⟩, ⟨some 39, .callP 48 [(.t 36), (.t 38)], none⟩, ⟨some 40, .bin .lss (.t 39) (.c (.int .i64 0)), none⟩])
     (.cond (.t 40) (.ops false [⟨some 41, .mv (.t 5), none⟩, ⟨some 42, .faddr 0 (.t 9), none⟩, ⟨some 43, .load none (.t 42), none⟩, ⟨some 44, .build [.str [], .int .i64 0] [(0, 1, (.t 43)), (1, 1, (.c (.int .i64 4)))], none⟩, ⟨some 45, .bslice true [.str [], .int .i64 0] [(some (.t 44))], none⟩, ⟨some 46, .append 2 (.t 41) (.t 45), none⟩, ⟨some 5, .mv (.t 46), none⟩])
      (.skip)))))
    (.ops false [⟨some 47, .bin .add (.t 31) (.c (.int .i64 1)), none⟩, ⟨some 31, .mv (.t 47), none⟩])))))))
  (.seq (.ops false [⟨some 48, .mv (.t 5), none⟩, ⟨some 4, .mv (.t 48), none⟩])
  (.ret))))),
  [.t 4]⟩

/- noria/plan.step -/
def d_plan_step : DFun := ⟨
  .seq (.ops false [⟨some 5, .bref (.t 0), none⟩, ⟨some 6, .bref (.t 1), none⟩, ⟨some 8, .bref (.t 3), none⟩, ⟨some 10, .alloc [.int .i64 0, .int .i64 0, .int .i64 0, .int .i64 0, .sl [], .sl []], none⟩])
  (.seq (.ops true [⟨some 14, .faddr 4 (.t 8), none⟩, ⟨some 15, .load none (.t 14), none⟩, ⟨some 16, .faddr 1 (.t 8), none⟩, ⟨some 17, .load (some 3) (.t 16), none⟩, ⟨some 18, .callP 49 [(.t 17)], none⟩, ⟨some 19, .build [.int .i64 0, .int .i64 0, .int .i64 0, .int .i64 0, .sl [], .sl []] [(1, 1, (.t 15)), (2, 1, (.t 18))], none⟩, ⟨some 11, .alloc [.int .i64 0, .int .i64 0, .int .i64 0, .int .i64 0, .sl [], .sl []], none⟩, ⟨none, .store 6 (.t 11) (.t 19), none⟩])
  (.seq (.seq (.ops false [⟨some 21, .mv (.t 2), none⟩, ⟨some 22, .faddr 0 (.t 8), none⟩, ⟨some 23, .load none (.t 22), none⟩, ⟨some 24, .callP 50 [(.t 21), (.t 23)], none⟩, ⟨some 20, .mv (.t 24), none⟩, ⟨some 25, .extract 0 (.t 20), none⟩, ⟨some 26, .extract 1 (.t 20), none⟩, ⟨some 12, .alloc [.str [], .int .i64 0, .int .i64 0, .str [], .int .i64 0, .sl [], .sl []], none⟩, ⟨none, .store 7 (.t 12) (.t 25), none⟩, ⟨some 13, .mv (.t 26), none⟩])
  (.seq (.ops false [⟨some 27, .mv (.t 13), none⟩])
  (.cond (.t 27) (.seq (.ops false [⟨some 28, .faddr 0 (.t 11), none⟩, ⟨none, .store 1 (.t 28) (.c (.int .i64 3)), none⟩])
   (.seq (.ops false [⟨some 30, .load (some 6) (.t 5), none⟩, ⟨some 31, .load (some 6) (.t 6), none⟩, ⟨some 32, .load (some 7) (.t 12), none⟩, ⟨some 33, .callP 51 [(.t 30), (.t 31), (.t 32)], none⟩, ⟨some 29, .mv (.t 33), none⟩, ⟨some 34, .extract 0 (.t 29), none⟩, ⟨some 35, .extract 1 (.t 29), none⟩, ⟨some 36, .faddr 5 (.t 11), none⟩, ⟨none, .store 1 (.t 36) (.t 34), none⟩])
   (.seq (.ops false [⟨some 37, .load (some 6) (.t 11), none⟩, ⟨none, .store 6 (.t 10) (.t 37), none⟩])
   (.ret))))
   (.skip))))
  (.seq (.seq (.ops false [⟨some 38, .mv (.t 4), none⟩, ⟨some 39, .bin .eql (.t 38) (.c (.int .i64 1)), none⟩])
  (.cond (.t 39) (.seq (.ops false [⟨some 40, .faddr 0 (.t 11), none⟩, ⟨none, .store 1 (.t 40) (.c (.int .i64 1)), none⟩])
   (.seq (.ops true [⟨some 41, .faddr 3 (.t 5), none⟩, ⟨some 42, .load none (.t 41), none⟩, ⟨some 43, .faddr 3 (.t 5), none⟩, ⟨some 44, .load none (.t 43), none⟩, ⟨some 45, .faddr 0 (.t 8), none⟩, ⟨some 46, .load none (.t 45), none⟩, ⟨some 47, .callP 48 [(.t 44), (.t 46)], none⟩, ⟨some 48, .iaddr 6 (.t 42) (.t 47), none⟩, ⟨some 49, .faddr 4 (.t 48), none⟩, ⟨some 50, .load none (.t 49), none⟩, ⟨some 51, .faddr 3 (.t 11), none⟩, ⟨none, .store 1 (.t 51) (.t 50), none⟩])
   (.seq (.ops false [⟨some 52, .load (some 6) (.t 11), none⟩, ⟨none, .store 6 (.t 10) (.t 52), none⟩])
   (.ret))))
   (.skip)))
  (.seq (.ops false [⟨some 53, .faddr 0 (.t 11), none⟩, ⟨none, .store 1 (.t 53) (.c (.int .i64 2)), none⟩])
  (.seq (.ops false [⟨some 54, .faddr 5 (.t 8), none⟩, ⟨some 55, .load none (.t 54), none⟩, ⟨some 56, .callP 52 [(.t 55)], none⟩, ⟨some 57, .faddr 4 (.t 11), none⟩, ⟨none, .store 1 (.t 57) (.t 56), none⟩])
  (.seq (.ops false [⟨some 58, .load (some 6) (.t 11), none⟩, ⟨none, .store 6 (.t 10) (.t 58), none⟩])
  (.ret))))))),
  [.cell 10 (some 6)]⟩

/- noria/plan.Right -/
def d_plan_Right : DFun := ⟨
  .seq (.ops false [⟨some 4, .mv (.c (.bool false)), none⟩])
  (.seq (.ops false [⟨some 5, .mv (.c (.int .i64 0)), none⟩])
  (.seq (.seq (.ops false [⟨some 8, .mv (.t 0), none⟩, ⟨some 9, .len (.t 8), none⟩, ⟨some 10, .mv (.c (.int .i64 0)), none⟩])
  (.block 0 (.loop [1, 5, 8, 9, 10] (some 0) (.seq (.ops false [⟨some 11, .bin .lss (.t 10) (.t 9), none⟩])
    (.seq (.cond (.t 11) (.skip)
     (.exit 0))
    (.seq (.block 1 (.seq (.ops false [⟨some 12, .iaddr 6 (.t 8) (.t 10), none⟩, ⟨some 13, .load (some 6) (.t 12), none⟩, ⟨some 7, .alloc [.int .i64 0, .int .i64 0, .int .i64 0, .int .i64 0, .nil, .nil], none⟩, ⟨none, .store 6 (.t 7) (.t 13), none⟩])
     (.seq (.seq (.ops false [⟨some 14, .load (some 6) (.t 7), none⟩, ⟨some 15, .mv (.t 5), none⟩, ⟨some 16, .mv (.t 1), none⟩, ⟨some 17, .callP 53 [(.t 14), (.t 15), (.t 16)], none⟩, ⟨some 18, .un .not (.t 17), none⟩])
     (.cond (.t 18) (.seq (.ops false [⟨some 4, .mv (.c (.bool false)), none⟩])
      (.ret))
      (.skip)))
     (.ops false [⟨some 19, .mv (.t 5), none⟩, ⟨some 20, .faddr 2 (.t 7), none⟩, ⟨some 21, .load none (.t 20), none⟩, ⟨some 22, .bin .add (.t 19) (.t 21), none⟩, ⟨some 5, .mv (.t 22), none⟩]))))
    (.ops false [⟨some 23, .bin .add (.t 10) (.c (.int .i64 1)), none⟩, ⟨some 10, .mv (.t 23), none⟩])))))))
  (.seq (.ops false [⟨some 4, .mv (.c (.bool true)), none⟩])
  (.ret)))),
  [.t 4]⟩

/- noria/move.each -/
def d_move_each : DFun := ⟨
  .seq (.ops false [⟨some 3, .bref (.t 0), none⟩, ⟨some 4, .bref (.t 1), none⟩, ⟨some 5, .box (.t 2), none⟩, ⟨some 6, .mv (.c (.undef)), none⟩])
  (.seq (.ops false [⟨some 7, .mkfun 54 [(.t 3), (.t 4), (.t 5)], none⟩, ⟨some 6, .mv (.t 7), none⟩])
  (.ret)),
  [.t 6]⟩

/- noria/norialaw41.moved -/
/- noria/noriaref41.Whole -/
/- noria/noriaref39.What -/
/- noria/noriaref27.Find -/
def d_noriaref27_Find : DFun := ⟨
  .seq (.ops false [⟨some 4, .mv (.c (.int .i64 0)), none⟩])
  (.seq (.seq (.ops false [⟨some 5, .mv (.c (.int .i64 0)), none⟩])
  (.block 0 (.loop [0, 1, 5] (some 0) (.seq (.seq (.ops false [⟨some 6, .mv (.t 5), none⟩, ⟨some 7, .mv (.t 0), none⟩, ⟨some 8, .len (.t 7), none⟩, ⟨some 9, .bin .lss (.t 6) (.t 8), none⟩])
    (.cond (.t 9) (.skip)
     (.exit 0)))
    (.seq (.block 1 (.seq (.ops false [⟨some 12, .mv (.t 0), none⟩, ⟨some 13, .mv (.t 5), none⟩, ⟨some 14, .iaddr 6 (.t 12) (.t 13), none⟩, ⟨some 15, .faddr 0 (.t 14), none⟩, ⟨some 16, .load none (.t 15), none⟩, ⟨some 17, .mv (.t 1), none⟩, ⟨some 18, .bin .eql (.t 16) (.t 17), none⟩])
     (.cond (.t 18) (.seq (.ops false [⟨some 19, .mv (.t 5), none⟩, ⟨some 4, .mv (.t 19), none⟩])
      (.ret))
      (.skip))))
    (.ops false [⟨some 10, .mv (.t 5), none⟩, ⟨some 11, .bin .add (.t 10) (.c (.int .i64 1)), none⟩, ⟨some 5, .mv (.t 11), none⟩]))))))
  (.seq (.ops false [⟨some 4, .mv (.c (.int .i64 (-1))), none⟩])
  (.ret))),
  [.t 4]⟩

/- noria/noriaref05.Cells -/
def d_noriaref05_Cells : DFun := ⟨
  .seq (.ops false [⟨some 1, .box (.t 0), none⟩, ⟨some 2, .mv (.c (.int .i64 0)), none⟩])
  (.seq (.seq (.ops false [⟨some 3, .faddr 2 (.t 1), none⟩, ⟨some 4, .load none (.t 3), none⟩, ⟨some 5, .bin .lss (.t 4) (.c (.int .i64 1)), none⟩])
  (.cond (.t 5) (.seq (.ops false [⟨some 2, .mv (.c (.int .i64 1)), none⟩])
   (.ret))
   (.skip)))
  (.seq (.seq (.ops false [⟨some 6, .faddr 2 (.t 1), none⟩, ⟨some 7, .load none (.t 6), none⟩, ⟨some 8, .bin .gtr (.t 7) (.c (.int .i64 8)), none⟩])
  (.cond (.t 8) (.seq (.ops false [⟨some 2, .mv (.c (.int .i64 8)), none⟩])
   (.ret))
   (.skip)))
  (.seq (.ops false [⟨some 9, .faddr 2 (.t 1), none⟩, ⟨some 10, .load none (.t 9), none⟩, ⟨some 2, .mv (.t 10), none⟩])
  (.ret)))),
  [.t 2]⟩

/- noria/noriaref05.Small -/
def d_noriaref05_Small : DFun := ⟨
  .seq (.ops false [⟨some 2, .mv (.c (.bool false)), none⟩])
  (.seq (.seq (.ops false [⟨some 5, .mv (.t 0), none⟩, ⟨some 6, .len (.t 5), none⟩, ⟨some 7, .bin .gtr (.t 6) (.c (.int .i64 8)), none⟩])
  (.cond (.t 7) (.seq (.ops false [⟨some 2, .mv (.c (.bool false)), none⟩])
   (.ret))
   (.skip)))
  (.seq (.seq (.ops false [⟨some 3, .mv (.c (.int .i64 0)), none⟩])
  (.block 0 (.loop [0, 3] (some 0) (.seq (.seq (.ops false [⟨some 8, .mv (.t 3), none⟩, ⟨some 9, .mv (.t 0), none⟩, ⟨some 10, .len (.t 9), none⟩, ⟨some 11, .bin .lss (.t 8) (.t 10), none⟩])
    (.cond (.t 11) (.skip)
     (.exit 0)))
    (.seq (.block 1 (.seq (.seq (.ops false [⟨some 14, .mv (.t 0), none⟩, ⟨some 15, .mv (.t 3), none⟩, ⟨some 16, .iaddr 2 (.t 14) (.t 15), none⟩, ⟨some 17, .faddr 1 (.t 16), none⟩, ⟨some 18, .load none (.t 17), none⟩, ⟨some 19, .len (.t 18), none⟩, ⟨some 20, .bin .gtr (.t 19) (.c (.int .i64 12)), none⟩, ⟨some 21, .mv (.t 20), none⟩, ⟨some 22, .mv (.t 0), some (21, false)⟩, ⟨some 23, .mv (.t 3), some (21, false)⟩, ⟨some 24, .iaddr 2 (.t 22) (.t 23), some (21, false)⟩, ⟨some 25, .faddr 0 (.t 24), some (21, false)⟩, ⟨some 26, .load none (.t 25), some (21, false)⟩, ⟨some 27, .lenS (.t 26), some (21, false)⟩, ⟨some 28, .bin .gtr (.t 27) (.c (.int .i64 100)), some (21, false)⟩, ⟨some 29, .pick (.t 21) (.c (.bool true)) (.t 28), none⟩])
     (.cond (.t 29) (.seq (.ops false [⟨some 2, .mv (.c (.bool false)), none⟩])
      (.ret))
      (.skip)))
     (.seq (.ops false [⟨some 4, .mv (.c (.int .i64 0)), none⟩])
     (.block 2 (.loop [0, 3, 4] (some 0) (.seq (.seq (.ops false [⟨some 30, .mv (.t 4), none⟩, ⟨some 31, .mv (.t 0), none⟩, ⟨some 32, .mv (.t 3), none⟩, ⟨some 33, .iaddr 2 (.t 31) (.t 32), none⟩, ⟨some 34, .faddr 1 (.t 33), none⟩, ⟨some 35, .load none (.t 34), none⟩, ⟨some 36, .len (.t 35), none⟩, ⟨some 37, .bin .lss (.t 30) (.t 36), none⟩])
       (.cond (.t 37) (.skip)
        (.exit 2)))
       (.seq (.block 3 (.seq (.ops false [⟨some 40, .mv (.t 0), none⟩, ⟨some 41, .mv (.t 3), none⟩, ⟨some 42, .iaddr 2 (.t 40) (.t 41), none⟩, ⟨some 43, .faddr 1 (.t 42), none⟩, ⟨some 44, .load none (.t 43), none⟩, ⟨some 45, .mv (.t 4), none⟩, ⟨some 46, .iaddr 1 (.t 44) (.t 45), none⟩, ⟨some 47, .load none (.t 46), none⟩, ⟨some 48, .lenS (.t 47), none⟩, ⟨some 49, .bin .gtr (.t 48) (.c (.int .i64 100)), none⟩])
        (.cond (.t 49) (.seq (.ops false [⟨some 2, .mv (.c (.bool false)), none⟩])
         (.ret))
         (.skip))))
       (.ops false [⟨some 38, .mv (.t 4), none⟩, ⟨some 39, .bin .add (.t 38) (.c (.int .i64 1)), none⟩, ⟨some 4, .mv (.t 39), none⟩]))))))))
    (.ops false [⟨some 12, .mv (.t 3), none⟩, ⟨some 13, .bin .add (.t 12) (.c (.int .i64 1)), none⟩, ⟨some 3, .mv (.t 13), none⟩]))))))
  (.seq (.ops false [⟨some 2, .mv (.c (.bool true)), none⟩])
  (.ret)))),
  [.t 2]⟩

/- noria/noriaref09.Small -/
/- noria/noriaref05.Enums -/
def d_noriaref05_Enums : DFun := ⟨
  .seq (.ops false [⟨some 2, .mv (.c (.int .i64 0)), none⟩])
  (.seq (.ops false [⟨some 8, .bslice false [.str []] [], none⟩, ⟨some 9, .bslice false [.str []] [], none⟩, ⟨some 3, .mv (.t 8), none⟩, ⟨some 4, .mv (.t 9), none⟩])
  (.seq (.seq (.ops false [⟨some 10, .mv (.t 0), none⟩, ⟨some 11, .len (.t 10), none⟩, ⟨some 12, .bin .gtr (.t 11) (.c (.int .i64 4)), none⟩])
  (.cond (.t 12) (.seq (.ops false [⟨some 2, .mv (.c (.int .i64 4)), none⟩])
   (.ret))
   (.skip)))
  (.seq (.seq (.ops false [⟨some 5, .mv (.c (.int .i64 0)), none⟩])
  (.block 0 (.loop [0, 3, 4, 5] (some 2) (.seq (.seq (.ops false [⟨some 13, .mv (.t 5), none⟩, ⟨some 14, .mv (.t 0), none⟩, ⟨some 15, .len (.t 14), none⟩, ⟨some 16, .bin .lss (.t 13) (.t 15), none⟩])
    (.cond (.t 16) (.skip)
     (.exit 0)))
    (.seq (.block 1 (.seq (.seq (.ops false [⟨some 19, .mv (.t 0), none⟩, ⟨some 20, .mv (.t 5), none⟩, ⟨some 21, .iaddr 2 (.t 19) (.t 20), none⟩, ⟨some 22, .faddr 1 (.t 21), none⟩, ⟨some 23, .load none (.t 22), none⟩, ⟨some 24, .len (.t 23), none⟩, ⟨some 25, .bin .gtr (.t 24) (.c (.int .i64 6)), none⟩])
     (.cond (.t 25) (.seq (.ops false [⟨some 2, .mv (.c (.int .i64 4)), none⟩])
      (.ret))
      (.skip)))
     (.seq (.ops false [⟨some 26, .mv (.t 3), none⟩, ⟨some 27, .mv (.t 0), none⟩, ⟨some 28, .mv (.t 5), none⟩, ⟨some 29, .iaddr 2 (.t 27) (.t 28), none⟩, ⟨some 30, .faddr 0 (.t 29), none⟩, ⟨some 31, .load none (.t 30), none⟩, ⟨some 32, .bslice true [.str []] [(some (.t 31))], none⟩, ⟨some 33, .append 1 (.t 26) (.t 32), none⟩, ⟨some 3, .mv (.t 33), none⟩])
     (.ops false [⟨some 34, .mv (.t 4), none⟩, ⟨some 35, .mv (.t 0), none⟩, ⟨some 36, .mv (.t 5), none⟩, ⟨some 37, .iaddr 2 (.t 35) (.t 36), none⟩, ⟨some 38, .faddr 1 (.t 37), none⟩, ⟨some 39, .load none (.t 38), none⟩, ⟨some 40, .append 1 (.t 34) (.t 39), none⟩, ⟨some 4, .mv (.t 40), none⟩]))))
    (.ops false [⟨some 17, .mv (.t 5), none⟩, ⟨some 18, .bin .add (.t 17) (.c (.int .i64 1)), none⟩, ⟨some 5, .mv (.t 18), none⟩]))))))
  (.seq (.seq (.ops false [⟨some 6, .mv (.c (.int .i64 0)), none⟩])
  (.block 2 (.loop [0, 3, 4, 6] (some 2) (.seq (.seq (.ops false [⟨some 41, .mv (.t 6), none⟩, ⟨some 42, .mv (.t 0), none⟩, ⟨some 43, .len (.t 42), none⟩, ⟨some 44, .bin .lss (.t 41) (.t 43), none⟩])
    (.cond (.t 44) (.skip)
     (.exit 2)))
    (.seq (.block 3 (.seq (.ops false [⟨some 47, .mv (.t 0), none⟩, ⟨some 48, .mv (.t 6), none⟩, ⟨some 49, .iaddr 2 (.t 47) (.t 48), none⟩, ⟨some 50, .faddr 0 (.t 49), none⟩, ⟨some 51, .load none (.t 50), none⟩, ⟨some 52, .callP 35 [(.t 51)], none⟩, ⟨some 53, .un .not (.t 52), none⟩, ⟨some 54, .mv (.t 53), none⟩, ⟨some 55, .mv (.t 0), some (54, false)⟩, ⟨some 56, .mv (.t 6), some (54, false)⟩, ⟨some 57, .iaddr 2 (.t 55) (.t 56), some (54, false)⟩, ⟨some 58, .faddr 1 (.t 57), some (54, false)⟩, ⟨some 59, .load none (.t 58), some (54, false)⟩, ⟨some 60, .len (.t 59), some (54, false)⟩, ⟨some 61, .bin .eql (.t 60) (.c (.int .i64 0)), some (54, false)⟩, ⟨some 62, .pick (.t 54) (.c (.bool true)) (.t 61), none⟩])
     (.cond (.t 62) (.seq (.ops false [⟨some 2, .mv (.c (.int .i64 1)), none⟩])
      (.ret))
      (.skip))))
    (.ops false [⟨some 45, .mv (.t 6), none⟩, ⟨some 46, .bin .add (.t 45) (.c (.int .i64 1)), none⟩, ⟨some 6, .mv (.t 46), none⟩]))))))
  (.seq (.seq (.ops false [⟨some 7, .mv (.c (.int .i64 0)), none⟩])
  (.block 4 (.loop [3, 4, 7] (some 2) (.seq (.seq (.ops false [⟨some 63, .mv (.t 7), none⟩, ⟨some 64, .mv (.t 4), none⟩, ⟨some 65, .len (.t 64), none⟩, ⟨some 66, .bin .lss (.t 63) (.t 65), none⟩])
    (.cond (.t 66) (.skip)
     (.exit 4)))
    (.seq (.block 5 (.seq (.ops false [⟨some 69, .mv (.t 4), none⟩, ⟨some 70, .mv (.t 7), none⟩, ⟨some 71, .iaddr 1 (.t 69) (.t 70), none⟩, ⟨some 72, .load none (.t 71), none⟩, ⟨some 73, .callP 60 [(.t 72)], none⟩, ⟨some 74, .un .not (.t 73), none⟩])
     (.cond (.t 74) (.seq (.ops false [⟨some 2, .mv (.c (.int .i64 1)), none⟩])
      (.ret))
      (.skip))))
    (.ops false [⟨some 67, .mv (.t 7), none⟩, ⟨some 68, .bin .add (.t 67) (.c (.int .i64 1)), none⟩, ⟨some 7, .mv (.t 68), none⟩]))))))
  (.seq (.seq (.ops false [⟨some 75, .mv (.t 3), none⟩, ⟨some 76, .callP 37 [(.t 75)], none⟩, ⟨some 77, .un .not (.t 76), none⟩, ⟨some 78, .mv (.t 77), none⟩, ⟨some 79, .mv (.t 4), some (78, false)⟩, ⟨some 80, .callP 37 [(.t 79)], some (78, false)⟩, ⟨some 81, .un .not (.t 80), some (78, false)⟩, ⟨some 82, .pick (.t 78) (.c (.bool true)) (.t 81), none⟩])
  (.cond (.t 82) (.seq (.ops false [⟨some 2, .mv (.c (.int .i64 6)), none⟩])
   (.ret))
   (.skip)))
  (.seq (.ops false [⟨some 2, .mv (.c (.int .i64 0)), none⟩])
  (.ret)))))))),
  [.t 2]⟩

/- noria/noriaref27.Right -/
def d_noriaref27_Right : DFun := ⟨
  .seq (.ops false [⟨some 4, .mv (.c (.bool false)), none⟩])
  (.seq (.seq (.ops false [⟨some 6, .mv (.t 1), none⟩, ⟨some 7, .len (.t 6), none⟩, ⟨some 8, .bin .gtr (.t 7) (.c (.int .i64 120)), none⟩, ⟨some 9, .mv (.t 8), none⟩, ⟨some 10, .mv (.t 1), some (9, false)⟩, ⟨some 11, .callP 18 [(.t 10)], some (9, false)⟩, ⟨some 12, .bin .gtr (.t 11) (.c (.int .i64 1000)), some (9, false)⟩, ⟨some 13, .pick (.t 9) (.c (.bool true)) (.t 12), none⟩])
  (.cond (.t 13) (.seq (.ops false [⟨some 4, .mv (.c (.bool false)), none⟩])
   (.ret))
   (.skip)))
  (.seq (.seq (.ops false [⟨some 5, .mv (.c (.int .i64 0)), none⟩])
  (.block 0 (.loop [0, 1, 5] (some 0) (.seq (.seq (.ops false [⟨some 14, .mv (.t 5), none⟩, ⟨some 15, .mv (.t 1), none⟩, ⟨some 16, .len (.t 15), none⟩, ⟨some 17, .bin .lss (.t 14) (.t 16), none⟩])
    (.cond (.t 17) (.skip)
     (.exit 0)))
    (.seq (.block 1 (.seq (.opsP [(0, ⟨some 20, .mv (.t 1), none⟩), (1, ⟨some 21, .mv (.t 5), none⟩), (2, ⟨some 22, .iaddr 6 (.t 20) (.t 21), none⟩), (3, ⟨some 23, .faddr 0 (.t 22), none⟩), (4, ⟨some 24, .load none (.t 23), none⟩), (5, ⟨some 25, .callP 61 [(.t 24)], none⟩), (6, ⟨some 26, .un .not (.t 25), none⟩), (7, ⟨some 27, .mv (.t 26), none⟩), (8, ⟨some 28, .mv (.t 0), some (27, false)⟩), (9, ⟨some 29, .mv (.t 1), some (27, false)⟩), (10, ⟨some 30, .mv (.t 5), some (27, false)⟩), (11, ⟨some 31, .iaddr 6 (.t 29) (.t 30), some (27, false)⟩), (12, ⟨some 32, .faddr 1 (.t 31), some (27, false)⟩), (13, ⟨some 33, .load (some 3) (.t 32), some (27, false)⟩), (14, ⟨some 34, .mv (.t 1), some (27, false)⟩), (15, ⟨some 35, .mv (.t 5), some (27, false)⟩), (16, ⟨some 36, .iaddr 6 (.t 34) (.t 35), some (27, false)⟩), (17, ⟨some 37, .faddr 5 (.t 36), some (27, false)⟩), (18, ⟨some 38, .load none (.t 37), some (27, false)⟩), (19, ⟨some 39, .callP 19 [(.t 28), (.t 33), (.t 38)], some (27, false)⟩), (20, ⟨some 40, .un .not (.t 39), some (27, false)⟩), (21, ⟨some 41, .pick (.t 27) (.c (.bool true)) (.t 40), none⟩), (22, ⟨some 42, .mv (.t 41), none⟩), (23, ⟨some 43, .mv (.t 1), some (42, false)⟩), (24, ⟨some 44, .mv (.t 5), some (42, false)⟩), (25, ⟨some 45, .iaddr 6 (.t 43) (.t 44), some (42, false)⟩), (26, ⟨some 46, .faddr 4 (.t 45), some (42, false)⟩), (27, ⟨some 47, .load none (.t 46), some (42, false)⟩), (28, ⟨some 48, .mv (.t 1), some (42, false)⟩), (29, ⟨some 49, .mv (.t 5), some (42, false)⟩), (30, ⟨some 50, .slice 6 (.t 48) none (some (.t 49)) none, some (42, false)⟩), (31, ⟨some 51, .callP 18 [(.t 50)], some (42, false)⟩), (32, ⟨some 52, .bin .neq (.t 47) (.t 51), some (42, false)⟩), (33, ⟨some 53, .pick (.t 42) (.c (.bool true)) (.t 52), none⟩), (34, ⟨some 54, .mv (.t 53), none⟩), (35, ⟨some 55, .mv (.t 1), some (54, false)⟩), (36, ⟨some 56, .mv (.t 1), some (54, false)⟩), (37, ⟨some 57, .mv (.t 5), some (54, false)⟩), (38, ⟨some 58, .iaddr 6 (.t 56) (.t 57), some (54, false)⟩), (39, ⟨some 59, .faddr 0 (.t 58), some (54, false)⟩), (40, ⟨some 60, .load none (.t 59), some (54, false)⟩), (42, ⟨some 62, .mv (.t 5), some (54, false)⟩), (41, ⟨some 61, .callP 29 [(.t 55), (.t 60)], some (54, false)⟩), (43, ⟨some 63, .bin .neq (.t 61) (.t 62), some (54, false)⟩), (44, ⟨some 64, .pick (.t 54) (.c (.bool true)) (.t 63), none⟩)])
     (.cond (.t 64) (.seq (.ops false [⟨some 4, .mv (.c (.bool false)), none⟩])
      (.ret))
      (.skip))))
    (.ops false [⟨some 18, .mv (.t 5), none⟩, ⟨some 19, .bin .add (.t 18) (.c (.int .i64 1)), none⟩, ⟨some 5, .mv (.t 19), none⟩]))))))
  (.seq (.ops false [⟨some 4, .mv (.c (.bool true)), none⟩])
  (.ret)))),
  [.t 4]⟩

/- noria/noriaref04.Low -/
def d_noriaref04_Low : DFun := ⟨
  .seq (.ops false [⟨some 2, .mv (.c (.bool false)), none⟩])
  (.seq (.ops false [⟨some 3, .mv (.t 0), none⟩, ⟨some 4, .callP 62 [(.t 3), (.c (.int .u8 97)), (.c (.int .u8 122))], none⟩, ⟨some 5, .mv (.t 4), none⟩, ⟨some 6, .mv (.t 0), some (5, true)⟩, ⟨some 7, .callP 63 [(.t 6)], some (5, true)⟩, ⟨some 8, .un .not (.t 7), some (5, true)⟩, ⟨some 9, .pick (.t 5) (.t 8) (.c (.bool false)), none⟩, ⟨some 2, .mv (.t 9), none⟩])
  (.ret)),
  [.t 2]⟩

/- noria/noriaref05.Right -/
def d_noriaref05_Right : DFun := ⟨
  .seq (.ops false [⟨some 3, .box (.t 1), none⟩, ⟨some 4, .mv (.c (.bool false)), none⟩])
  (.seq (.seq (.ops false [⟨some 5, .faddr 0 (.t 3), none⟩, ⟨some 6, .load none (.t 5), none⟩, ⟨some 7, .bin .lss (.t 6) (.c (.int .i64 1)), none⟩, ⟨some 8, .mv (.t 7), none⟩, ⟨some 9, .faddr 0 (.t 3), some (8, false)⟩, ⟨some 10, .load none (.t 9), some (8, false)⟩, ⟨some 11, .bin .gtr (.t 10) (.c (.int .i64 3)), some (8, false)⟩, ⟨some 12, .pick (.t 8) (.c (.bool true)) (.t 11), none⟩, ⟨some 13, .mv (.t 12), none⟩, ⟨some 14, .faddr 2 (.t 3), some (13, false)⟩, ⟨some 15, .load none (.t 14), some (13, false)⟩, ⟨some 16, .bin .lss (.t 15) (.c (.int .i64 0)), some (13, false)⟩, ⟨some 17, .pick (.t 13) (.c (.bool true)) (.t 16), none⟩, ⟨some 18, .mv (.t 17), none⟩, ⟨some 19, .faddr 2 (.t 3), some (18, false)⟩, ⟨some 20, .load none (.t 19), some (18, false)⟩, ⟨some 21, .bin .gtr (.t 20) (.c (.int .i64 8)), some (18, false)⟩, ⟨some 22, .pick (.t 18) (.c (.bool true)) (.t 21), none⟩])
  (.cond (.t 22) (.seq (.ops false [⟨some 4, .mv (.c (.bool false)), none⟩])
   (.ret))
   (.skip)))
  (.seq (.seq (.ops false [⟨some 23, .faddr 0 (.t 3), none⟩, ⟨some 24, .load none (.t 23), none⟩, ⟨some 25, .bin .eql (.t 24) (.c (.int .i64 3)), none⟩])
  (.cond (.t 25) (.seq (.ops false [⟨some 26, .faddr 1 (.t 3), none⟩, ⟨some 27, .load none (.t 26), none⟩, ⟨some 28, .bin .geq (.t 27) (.c (.int .i64 0)), none⟩, ⟨some 29, .mv (.t 28), none⟩, ⟨some 30, .faddr 1 (.t 3), some (29, true)⟩, ⟨some 31, .load none (.t 30), some (29, true)⟩, ⟨some 32, .mv (.t 0), some (29, true)⟩, ⟨some 33, .len (.t 32), some (29, true)⟩, ⟨some 34, .bin .lss (.t 31) (.t 33), some (29, true)⟩, ⟨some 35, .pick (.t 29) (.t 34) (.c (.bool false)), none⟩, ⟨some 4, .mv (.t 35), none⟩])
   (.ret))
   (.skip)))
  (.seq (.ops false [⟨some 36, .faddr 1 (.t 3), none⟩, ⟨some 37, .load none (.t 36), none⟩, ⟨some 38, .bin .eql (.t 37) (.c (.int .i64 0)), none⟩, ⟨some 4, .mv (.t 38), none⟩])
  (.ret)))),
  [.t 4]⟩

/- noria/noriaref04.Once -/
def d_noriaref04_Once : DFun := ⟨
  .seq (.ops false [⟨some 2, .mv (.c (.bool false)), none⟩])
  (.seq (.seq (.ops false [⟨some 3, .mv (.c (.int .i64 0)), none⟩])
  (.block 0 (.loop [0, 3] (some 0) (.seq (.seq (.ops false [⟨some 5, .mv (.t 3), none⟩, ⟨some 6, .mv (.t 0), none⟩, ⟨some 7, .len (.t 6), none⟩, ⟨some 8, .bin .lss (.t 5) (.t 7), none⟩])
    (.cond (.t 8) (.skip)
     (.exit 0)))
    (.seq (.block 1 (.seq (.ops false [⟨some 4, .mv (.c (.int .i64 0)), none⟩])
     (.block 2 (.loop [0, 3, 4] (some 0) (.seq (.seq (.ops false [⟨some 11, .mv (.t 4), none⟩, ⟨some 12, .mv (.t 3), none⟩, ⟨some 13, .bin .lss (.t 11) (.t 12), none⟩])
       (.cond (.t 13) (.skip)
        (.exit 2)))
       (.seq (.block 3 (.seq (.ops true [⟨some 16, .mv (.t 0), none⟩, ⟨some 17, .mv (.t 4), none⟩, ⟨some 18, .iaddr 1 (.t 16) (.t 17), none⟩, ⟨some 19, .load none (.t 18), none⟩, ⟨some 20, .mv (.t 0), none⟩, ⟨some 21, .mv (.t 3), none⟩, ⟨some 22, .iaddr 1 (.t 20) (.t 21), none⟩, ⟨some 23, .load none (.t 22), none⟩, ⟨some 24, .bin .eql (.t 19) (.t 23), none⟩])
        (.cond (.t 24) (.seq (.ops false [⟨some 2, .mv (.c (.bool false)), none⟩])
         (.ret))
         (.skip))))
       (.ops false [⟨some 14, .mv (.t 4), none⟩, ⟨some 15, .bin .add (.t 14) (.c (.int .i64 1)), none⟩, ⟨some 4, .mv (.t 15), none⟩])))))))
    (.ops false [⟨some 9, .mv (.t 3), none⟩, ⟨some 10, .bin .add (.t 9) (.c (.int .i64 1)), none⟩, ⟨some 3, .mv (.t 10), none⟩]))))))
  (.seq (.ops false [⟨some 2, .mv (.c (.bool true)), none⟩])
  (.ret))),
  [.t 2]⟩

/- noria/noriaref29.Shape -/
def d_noriaref29_Shape : DFun := ⟨
  .seq (.ops false [⟨some 1, .box (.t 0), none⟩, ⟨some 2, .mv (.c (.bool false)), none⟩])
  (.seq (.seq (.ops false [⟨some 5, .faddr 0 (.t 1), none⟩, ⟨some 6, .load none (.t 5), none⟩, ⟨some 7, .len (.t 6), none⟩, ⟨some 8, .bin .gtr (.t 7) (.c (.int .i64 4)), none⟩, ⟨some 9, .mv (.t 8), none⟩, ⟨some 10, .faddr 1 (.t 1), some (9, false)⟩, ⟨some 11, .load none (.t 10), some (9, false)⟩, ⟨some 12, .len (.t 11), some (9, false)⟩, ⟨some 13, .bin .gtr (.t 12) (.c (.int .i64 1000)), some (9, false)⟩, ⟨some 14, .pick (.t 9) (.c (.bool true)) (.t 13), none⟩, ⟨some 15, .mv (.t 14), none⟩, ⟨some 16, .faddr 2 (.t 1), some (15, false)⟩, ⟨some 17, .load none (.t 16), some (15, false)⟩, ⟨some 18, .bin .lss (.t 17) (.c (.int .i64 0)), some (15, false)⟩, ⟨some 19, .pick (.t 15) (.c (.bool true)) (.t 18), none⟩, ⟨some 20, .mv (.t 19), none⟩, ⟨some 21, .faddr 3 (.t 1), some (20, false)⟩, ⟨some 22, .load none (.t 21), some (20, false)⟩, ⟨some 23, .faddr 1 (.t 1), some (20, false)⟩, ⟨some 24, .load none (.t 23), some (20, false)⟩, ⟨some 25, .len (.t 24), some (20, false)⟩, ⟨some 26, .bin .gtr (.t 22) (.t 25), some (20, false)⟩, ⟨some 27, .pick (.t 20) (.c (.bool true)) (.t 26), none⟩, ⟨some 28, .mv (.t 27), none⟩, ⟨some 29, .faddr 2 (.t 1), some (28, false)⟩, ⟨some 30, .load none (.t 29), some (28, false)⟩, ⟨some 31, .faddr 3 (.t 1), some (28, false)⟩, ⟨some 32, .load none (.t 31), some (28, false)⟩, ⟨some 33, .bin .gtr (.t 30) (.t 32), some (28, false)⟩, ⟨some 34, .pick (.t 28) (.c (.bool true)) (.t 33), none⟩])
  (.cond (.t 34) (.seq (.ops false [⟨some 2, .mv (.c (.bool false)), none⟩])
   (.ret))
   (.skip)))
  (.seq (.seq (.ops false [⟨some 3, .mv (.c (.int .i64 0)), none⟩])
  (.block 0 (.loop [1, 3] (some 1) (.seq (.seq (.ops false [⟨some 35, .mv (.t 3), none⟩, ⟨some 36, .faddr 0 (.t 1), none⟩, ⟨some 37, .load none (.t 36), none⟩, ⟨some 38, .len (.t 37), none⟩, ⟨some 39, .bin .lss (.t 35) (.t 38), none⟩])
    (.cond (.t 39) (.skip)
     (.exit 0)))
    (.seq (.block 1 (.seq (.ops false [⟨some 42, .faddr 0 (.t 1), none⟩, ⟨some 43, .load none (.t 42), none⟩, ⟨some 44, .mv (.t 3), none⟩, ⟨some 45, .iaddr 1 (.t 43) (.t 44), none⟩, ⟨some 46, .load none (.t 45), none⟩, ⟨some 47, .bin .lss (.t 46) (.c (.int .i64 1)), none⟩])
     (.cond (.t 47) (.seq (.ops false [⟨some 2, .mv (.c (.bool false)), none⟩])
      (.ret))
      (.skip))))
    (.ops false [⟨some 40, .mv (.t 3), none⟩, ⟨some 41, .bin .add (.t 40) (.c (.int .i64 1)), none⟩, ⟨some 3, .mv (.t 41), none⟩]))))))
  (.seq (.seq (.ops false [⟨some 4, .mv (.c (.int .i64 0)), none⟩])
  (.block 2 (.loop [1, 4] (some 1) (.seq (.seq (.ops false [⟨some 48, .mv (.t 4), none⟩, ⟨some 49, .faddr 1 (.t 1), none⟩, ⟨some 50, .load none (.t 49), none⟩, ⟨some 51, .len (.t 50), none⟩, ⟨some 52, .bin .lss (.t 48) (.t 51), none⟩])
    (.cond (.t 52) (.skip)
     (.exit 2)))
    (.seq (.block 3 (.seq (.ops true [⟨some 55, .load (some 4) (.t 1), none⟩, ⟨some 56, .faddr 1 (.t 1), none⟩, ⟨some 57, .load none (.t 56), none⟩, ⟨some 58, .mv (.t 4), none⟩, ⟨some 59, .iaddr 1 (.t 57) (.t 58), none⟩, ⟨some 60, .load none (.t 59), none⟩, ⟨some 61, .callP 64 [(.t 55), (.t 60)], none⟩, ⟨some 62, .un .not (.t 61), none⟩])
     (.cond (.t 62) (.seq (.ops false [⟨some 2, .mv (.c (.bool false)), none⟩])
      (.ret))
      (.skip))))
    (.ops false [⟨some 53, .mv (.t 4), none⟩, ⟨some 54, .bin .add (.t 53) (.c (.int .i64 1)), none⟩, ⟨some 4, .mv (.t 54), none⟩]))))))
  (.seq (.ops false [⟨some 2, .mv (.c (.bool true)), none⟩])
  (.ret))))),
  [.t 2]⟩

/- noria/noriaref32.Shape -/
def d_noriaref32_Shape : DFun := ⟨
  .seq (.ops false [⟨some 1, .box (.t 0), none⟩, ⟨some 2, .alloc [.nil, .nil, .int .i64 0, .int .i64 0], none⟩])
  (.seq (.ops false [⟨some 8, .build [.nil, .nil, .int .i64 0, .int .i64 0] [], none⟩, ⟨some 3, .alloc [.nil, .nil, .int .i64 0, .int .i64 0], none⟩, ⟨none, .store 4 (.t 3) (.t 8), none⟩])
  (.gown 3 1 1 (.gown 3 0 1 (.seq (.seq (.ops false [⟨some 4, .mv (.c (.int .i64 0)), none⟩])
  (.block 0 (.loop [1, 2, 3, 4] (some 5) (.seq (.seq (.ops false [⟨some 9, .mv (.t 4), none⟩, ⟨some 10, .faddr 0 (.t 1), none⟩, ⟨some 11, .load none (.t 10), none⟩, ⟨some 12, .len (.t 11), none⟩, ⟨some 13, .bin .lss (.t 9) (.t 12), none⟩])
    (.cond (.t 13) (.skip)
     (.exit 0)))
    (.seq (.block 1 (.ops true [⟨some 16, .faddr 0 (.t 3), none⟩, ⟨some 17, .load none (.t 16), none⟩, ⟨some 18, .faddr 0 (.t 1), none⟩, ⟨some 19, .load none (.t 18), none⟩, ⟨some 20, .mv (.t 4), none⟩, ⟨some 21, .iaddr 2 (.t 19) (.t 20), none⟩, ⟨some 22, .faddr 1 (.t 21), none⟩, ⟨some 23, .load none (.t 22), none⟩, ⟨some 24, .len (.t 23), none⟩, ⟨some 25, .bslice true [.int .i64 0] [(some (.t 24))], none⟩, ⟨some 26, .append 1 (.t 17) (.t 25), none⟩, ⟨some 27, .faddr 0 (.t 3), none⟩, ⟨none, .store 1 (.t 27) (.t 26), none⟩]))
    (.ops false [⟨some 14, .mv (.t 4), none⟩, ⟨some 15, .bin .add (.t 14) (.c (.int .i64 1)), none⟩, ⟨some 4, .mv (.t 15), none⟩]))))))
  (.seq (.seq (.ops false [⟨some 5, .mv (.c (.int .i64 0)), none⟩])
  (.block 2 (.loop [1, 2, 3, 5] (some 5) (.seq (.seq (.ops false [⟨some 28, .mv (.t 5), none⟩, ⟨some 29, .faddr 3 (.t 1), none⟩, ⟨some 30, .load none (.t 29), none⟩, ⟨some 31, .len (.t 30), none⟩, ⟨some 32, .bin .lss (.t 28) (.t 31), none⟩])
    (.cond (.t 32) (.skip)
     (.exit 2)))
    (.seq (.block 3 (.ops true [⟨some 35, .faddr 1 (.t 3), none⟩, ⟨some 36, .load none (.t 35), none⟩, ⟨some 37, .faddr 3 (.t 1), none⟩, ⟨some 38, .load none (.t 37), none⟩, ⟨some 39, .mv (.t 5), none⟩, ⟨some 40, .iaddr 6 (.t 38) (.t 39), none⟩, ⟨some 41, .faddr 1 (.t 40), none⟩, ⟨some 42, .load (some 3) (.t 41), none⟩, ⟨some 43, .callH 65 [(.t 36), (.t 42)], none⟩, ⟨some 44, .faddr 1 (.t 3), none⟩, ⟨none, .store 1 (.t 44) (.t 43), none⟩]))
    (.ops false [⟨some 33, .mv (.t 5), none⟩, ⟨some 34, .bin .add (.t 33) (.c (.int .i64 1)), none⟩, ⟨some 5, .mv (.t 34), none⟩]))))))
  (.seq (.ops false [⟨some 45, .faddr 1 (.t 3), none⟩, ⟨some 46, .load none (.t 45), none⟩, ⟨some 47, .len (.t 46), none⟩, ⟨some 48, .faddr 2 (.t 3), none⟩, ⟨none, .store 1 (.t 48) (.t 47), none⟩])
  (.seq (.seq (.ops false [⟨some 6, .mv (.c (.int .i64 0)), none⟩])
  (.block 4 (.loop [1, 2, 3, 6] (some 5) (.seq (.seq (.ops false [⟨some 49, .mv (.t 6), none⟩, ⟨some 50, .faddr 1 (.t 1), none⟩, ⟨some 51, .load none (.t 50), none⟩, ⟨some 52, .len (.t 51), none⟩, ⟨some 53, .bin .lss (.t 49) (.t 52), none⟩])
    (.cond (.t 53) (.skip)
     (.exit 4)))
    (.seq (.block 5 (.ops true [⟨some 56, .faddr 1 (.t 3), none⟩, ⟨some 57, .load none (.t 56), none⟩, ⟨some 58, .faddr 1 (.t 1), none⟩, ⟨some 59, .load none (.t 58), none⟩, ⟨some 60, .mv (.t 6), none⟩, ⟨some 61, .iaddr 4 (.t 59) (.t 60), none⟩, ⟨some 62, .faddr 1 (.t 61), none⟩, ⟨some 63, .load (some 3) (.t 62), none⟩, ⟨some 64, .callH 65 [(.t 57), (.t 63)], none⟩, ⟨some 65, .faddr 1 (.t 3), none⟩, ⟨none, .store 1 (.t 65) (.t 64), none⟩]))
    (.ops false [⟨some 54, .mv (.t 6), none⟩, ⟨some 55, .bin .add (.t 54) (.c (.int .i64 1)), none⟩, ⟨some 6, .mv (.t 55), none⟩]))))))
  (.seq (.ops false [⟨some 66, .faddr 1 (.t 3), none⟩, ⟨some 67, .load none (.t 66), none⟩, ⟨some 68, .len (.t 67), none⟩, ⟨some 69, .faddr 3 (.t 3), none⟩, ⟨none, .store 1 (.t 69) (.t 68), none⟩])
  (.seq (.seq (.ops false [⟨some 7, .mv (.c (.int .i64 0)), none⟩])
  (.block 6 (.loop [1, 2, 3, 7] (some 5) (.seq (.seq (.ops false [⟨some 70, .mv (.t 7), none⟩, ⟨some 71, .faddr 2 (.t 1), none⟩, ⟨some 72, .load none (.t 71), none⟩, ⟨some 73, .len (.t 72), none⟩, ⟨some 74, .bin .lss (.t 70) (.t 73), none⟩])
    (.cond (.t 74) (.skip)
     (.exit 6)))
    (.seq (.block 7 (.ops true [⟨some 77, .faddr 1 (.t 3), none⟩, ⟨some 78, .load none (.t 77), none⟩, ⟨some 79, .faddr 2 (.t 1), none⟩, ⟨some 80, .load none (.t 79), none⟩, ⟨some 81, .mv (.t 7), none⟩, ⟨some 82, .iaddr 4 (.t 80) (.t 81), none⟩, ⟨some 83, .faddr 1 (.t 82), none⟩, ⟨some 84, .load (some 3) (.t 83), none⟩, ⟨some 85, .callH 65 [(.t 78), (.t 84)], none⟩, ⟨some 86, .faddr 1 (.t 3), none⟩, ⟨none, .store 1 (.t 86) (.t 85), none⟩]))
    (.ops false [⟨some 75, .mv (.t 7), none⟩, ⟨some 76, .bin .add (.t 75) (.c (.int .i64 1)), none⟩, ⟨some 7, .mv (.t 76), none⟩]))))))
  (.seq (.ops false [⟨some 87, .faddr 1 (.t 3), none⟩, ⟨some 88, .load none (.t 87), none⟩, ⟨some 89, .faddr 4 (.t 1), none⟩, ⟨some 90, .load none (.t 89), none⟩, ⟨some 91, .append 1 (.t 88) (.t 90), none⟩, ⟨some 92, .faddr 1 (.t 3), none⟩, ⟨none, .store 1 (.t 92) (.t 91), none⟩])
  (.seq (.ops false [⟨some 93, .load (some 4) (.t 3), none⟩, ⟨none, .store 4 (.t 2) (.t 93), none⟩])
  (.ret)))))))))))),
  [.cell 2 (some 4)]⟩

/- noria/noriaref09.Size -/
/- noria/noriaref09.Depth -/
/- noria/noriaref09.Parts -/
/- noria/noriaref09.part -/
/- noria/noriaref06.One -/
def d_noriaref06_One : DFun := ⟨
  .seq (.ops false [⟨some 4, .box (.t 1), none⟩, ⟨some 6, .mv (.c (.bool false)), none⟩])
  (.seq (.seq (.ops false [⟨some 7, .mv (.t 0), none⟩, ⟨some 8, .load (some 3) (.t 4), none⟩, ⟨some 9, .callP 36 [(.t 7), (.t 8)], none⟩, ⟨some 10, .un .not (.t 9), none⟩])
  (.cond (.t 10) (.seq (.ops false [⟨some 6, .mv (.c (.bool false)), none⟩])
   (.ret))
   (.skip)))
  (.seq (.seq (.ops false [⟨some 11, .faddr 0 (.t 4), none⟩, ⟨some 12, .load none (.t 11), none⟩, ⟨some 13, .bin .eql (.t 12) (.c (.int .i64 2)), none⟩])
  (.cond (.t 13) (.seq (.ops false [⟨some 14, .mv (.t 2), none⟩, ⟨some 15, .bin .eql (.t 14) (.c (.int .i64 0)), none⟩, ⟨some 16, .mv (.t 15), none⟩, ⟨some 17, .mv (.t 2), some (16, false)⟩, ⟨some 18, .bin .eql (.t 17) (.c (.int .i64 1)), some (16, false)⟩, ⟨some 19, .pick (.t 16) (.c (.bool true)) (.t 18), none⟩, ⟨some 6, .mv (.t 19), none⟩])
   (.ret))
   (.skip)))
  (.seq (.ops false [⟨some 20, .faddr 0 (.t 4), none⟩, ⟨some 21, .load none (.t 20), none⟩, ⟨some 22, .bin .eql (.t 21) (.c (.int .i64 1)), none⟩, ⟨some 23, .mv (.t 22), none⟩, ⟨some 24, .mv (.t 2), some (23, false)⟩, ⟨some 25, .bin .geq (.t 24) (.c (.int .i64 0)), some (23, false)⟩, ⟨some 26, .mv (.t 25), some (23, false)⟩, ⟨some 27, .mv (.t 2), some (26, true)⟩, ⟨some 28, .mv (.t 0), some (26, true)⟩, ⟨some 29, .faddr 1 (.t 4), some (26, true)⟩, ⟨some 30, .load none (.t 29), some (26, true)⟩, ⟨some 31, .iaddr 2 (.t 28) (.t 30), some (26, true)⟩, ⟨some 32, .faddr 1 (.t 31), some (26, true)⟩, ⟨some 33, .load none (.t 32), some (26, true)⟩, ⟨some 34, .len (.t 33), some (26, true)⟩, ⟨some 35, .bin .lss (.t 27) (.t 34), some (26, true)⟩, ⟨some 36, .pick (.t 26) (.t 35) (.c (.bool false)), some (23, false)⟩, ⟨some 37, .pick (.t 23) (.c (.bool true)) (.t 36), none⟩, ⟨some 6, .mv (.t 37), none⟩])
  (.ret)))),
  [.t 6]⟩

/- noria/move.one -/
def d_move_one : DFun := ⟨
  .seq (.ops false [⟨some 3, .bref (.t 0), none⟩, ⟨some 6, .alloc [.nil, .int .i64 0, .int .i64 0], none⟩])
  (.seq (.seq (.ops false [⟨some 7, .faddr 0 (.t 3), none⟩, ⟨some 8, .load none (.t 7), none⟩])
  (.block 0 (.seq (.ops false [⟨some 10, .bin .eql (.t 8) (.c (.int .i64 1)), none⟩, ⟨some 9, .mv (.t 10), none⟩])
   (.cond (.t 9) (.seq (.ops false [⟨some 11, .mv (.t 1), none⟩, ⟨some 12, .faddr 3 (.t 3), none⟩, ⟨some 13, .load none (.t 12), none⟩, ⟨some 14, .faddr 3 (.t 3), none⟩, ⟨some 15, .load none (.t 14), none⟩, ⟨some 16, .faddr 2 (.t 3), none⟩, ⟨some 17, .load none (.t 16), none⟩, ⟨some 18, .bin .add (.t 15) (.t 17), none⟩, ⟨some 19, .slice 1 (.t 11) (some (.t 13)) (some (.t 18)) none, none⟩, ⟨some 20, .callP 52 [(.t 19)], none⟩, ⟨some 21, .build [.nil, .int .i64 0, .int .i64 0] [(0, 1, (.t 20))], none⟩, ⟨none, .store 3 (.t 6) (.t 21), none⟩])
    (.ret))
    (.seq (.ops false [⟨some 23, .bin .eql (.t 8) (.c (.int .i64 2)), none⟩, ⟨some 22, .mv (.t 23), none⟩])
    (.cond (.t 22) (.seq (.ops false [⟨some 24, .faddr 4 (.t 3), none⟩, ⟨some 25, .load none (.t 24), none⟩, ⟨some 26, .callP 52 [(.t 25)], none⟩, ⟨some 27, .build [.nil, .int .i64 0, .int .i64 0] [(0, 1, (.t 26))], none⟩, ⟨none, .store 3 (.t 6) (.t 27), none⟩])
     (.ret))
     (.skip)))))))
  (.seq (.ops false [⟨some 28, .load (some 6) (.t 3), none⟩, ⟨some 29, .mv (.t 1), none⟩, ⟨some 30, .mv (.t 2), none⟩, ⟨some 31, .callP 71 [(.t 28), (.t 29), (.t 30)], none⟩, ⟨none, .store 3 (.t 6) (.t 31), none⟩])
  (.ret))),
  [.cell 6 (some 3)]⟩

/- (noria/mtype.way).one -/
/- noria/differ.what -/
def d_differ_what : DFun := ⟨
  .seq (.ops false [⟨some 3, .bref (.t 0), none⟩, ⟨some 4, .bref (.t 1), none⟩, ⟨some 5, .bref (.t 2), none⟩, ⟨some 6, .mv (.c (.int .i64 0)), none⟩])
  (.seq (.ops false [⟨some 10, .faddr 3 (.t 3), none⟩, ⟨some 11, .load none (.t 10), none⟩, ⟨some 12, .faddr 0 (.t 5), none⟩, ⟨some 13, .load none (.t 12), none⟩, ⟨some 14, .callP 48 [(.t 11), (.t 13)], none⟩, ⟨some 7, .mv (.t 14), none⟩])
  (.seq (.seq (.ops false [⟨some 15, .mv (.t 7), none⟩, ⟨some 16, .bin .lss (.t 15) (.c (.int .i64 0)), none⟩])
  (.cond (.t 16) (.seq (.ops false [⟨some 6, .mv (.c (.int .i64 3)), none⟩])
   (.ret))
   (.skip)))
  (.seq (.ops true [⟨some 18, .faddr 0 (.t 3), none⟩, ⟨some 19, .load none (.t 18), none⟩, ⟨some 20, .faddr 0 (.t 4), none⟩, ⟨some 21, .load none (.t 20), none⟩, ⟨some 22, .faddr 3 (.t 3), none⟩, ⟨some 23, .load none (.t 22), none⟩, ⟨some 24, .mv (.t 7), none⟩, ⟨some 25, .iaddr 6 (.t 23) (.t 24), none⟩, ⟨some 26, .faddr 1 (.t 25), none⟩, ⟨some 27, .load (some 3) (.t 26), none⟩, ⟨some 28, .callP 75 [(.t 19), (.t 21), (.t 27)], none⟩, ⟨some 17, .mv (.t 28), none⟩, ⟨some 29, .extract 0 (.t 17), none⟩, ⟨some 30, .extract 1 (.t 17), none⟩, ⟨some 8, .alloc [.int .i64 0, .int .i64 0, .int .i64 0], none⟩, ⟨none, .store 3 (.t 8) (.t 29), none⟩, ⟨some 9, .mv (.t 30), none⟩])
  (.seq (.seq (.ops false [⟨some 31, .mv (.t 9), none⟩, ⟨some 32, .un .not (.t 31), none⟩, ⟨some 33, .mv (.t 32), none⟩, ⟨some 34, .load (some 3) (.t 8), some (33, false)⟩, ⟨some 35, .faddr 1 (.t 5), some (33, false)⟩, ⟨some 36, .load (some 3) (.t 35), some (33, false)⟩, ⟨some 37, .aeq true [0, 0, 0] (.t 34) (.t 36), some (33, false)⟩, ⟨some 38, .pick (.t 33) (.c (.bool true)) (.t 37), none⟩])
  (.cond (.t 38) (.seq (.ops false [⟨some 6, .mv (.c (.int .i64 2)), none⟩])
   (.ret))
   (.skip)))
  (.seq (.ops false [⟨some 6, .mv (.c (.int .i64 1)), none⟩])
  (.ret)))))),
  [.t 6]⟩

/- noria/tree.Find -/
def d_tree_Find : DFun := ⟨
  .seq (.ops false [⟨some 3, .box (.t 1), none⟩, ⟨some 4, .mv (.c (.int .i64 0)), none⟩])
  (.seq (.ops false [⟨some 5, .mv (.t 0), none⟩, ⟨some 6, .mkfun 77 [(.t 3)], none⟩, ⟨some 7, .callP 76 [(.t 5), (.t 6)], none⟩, ⟨some 4, .mv (.t 7), none⟩])
  (.ret)),
  [.t 4]⟩

/- noria/ty.Cells -/
def d_ty_Cells : DFun := ⟨
  .seq (.ops false [⟨some 1, .box (.t 0), none⟩, ⟨some 2, .mv (.c (.int .i64 0)), none⟩])
  (.seq (.ops false [⟨some 3, .faddr 2 (.t 1), none⟩, ⟨some 4, .load none (.t 3), none⟩, ⟨some 5, .minmax true (.t 4) (.c (.int .i64 1)), none⟩, ⟨some 6, .minmax false (.t 5) (.c (.int .i64 8)), none⟩, ⟨some 2, .mv (.t 6), none⟩])
  (.ret)),
  [.t 2]⟩

/- noria/plan.moved -/
def d_plan_moved : DFun := ⟨
  .seq (.ops false [⟨some 3, .bref (.t 1), none⟩, ⟨some 4, .alloc [.str [], .int .i64 0, .int .i64 0, .str [], .int .i64 0, .sl [], .sl []], none⟩, ⟨some 5, .mv (.c (.bool false)), none⟩])
  (.seq (.ops false [⟨some 7, .mv (.t 0), none⟩, ⟨some 8, .mkfun 79 [(.t 3)], none⟩, ⟨some 9, .callP 78 [(.t 7), (.t 8)], none⟩, ⟨some 6, .mv (.t 9), none⟩])
  (.seq (.seq (.ops false [⟨some 10, .mv (.t 6), none⟩, ⟨some 11, .bin .lss (.t 10) (.c (.int .i64 0)), none⟩])
  (.cond (.t 11) (.seq (.ops false [⟨some 12, .build [.str [], .int .i64 0, .int .i64 0, .str [], .int .i64 0, .sl [], .sl []] [], none⟩, ⟨none, .store 7 (.t 4) (.t 12), none⟩, ⟨some 5, .mv (.c (.bool false)), none⟩])
   (.ret))
   (.skip)))
  (.seq (.ops false [⟨some 13, .mv (.t 0), none⟩, ⟨some 14, .mv (.t 6), none⟩, ⟨some 15, .iaddr 7 (.t 13) (.t 14), none⟩, ⟨some 16, .load (some 7) (.t 15), none⟩, ⟨none, .store 7 (.t 4) (.t 16), none⟩, ⟨some 5, .mv (.c (.bool true)), none⟩])
  (.ret)))),
  [.cell 4 (some 7), .t 5]⟩

/- noria/mtype.Code -/
/- slices.Clone[[]int64,int64] -/
def d_slices_Clone_int64_int64 : DFun := ⟨
  .seq (.ops false [⟨some 2, .mv (.c (.nil)), none⟩])
  (.seq (.seq (.ops false [⟨some 3, .mv (.t 0), none⟩, ⟨some 4, .snil false (.t 3), none⟩])
  (.cond (.t 4) (.seq (.ops false [⟨some 2, .mkown 1 (.c (.nil)), none⟩])
   (.ret))
   (.skip)))
  (.seq (.ops false [⟨some 5, .bslice false [.int .i64 0] [], none⟩, ⟨some 6, .mv (.t 0), none⟩, ⟨some 7, .append 1 (.t 5) (.t 6), none⟩, ⟨some 2, .mv (.t 7), none⟩])
  (.ret))),
  [.t 2]⟩

/- noria/plan.right -/
def d_plan_right : DFun := ⟨
  .seq (.ops false [⟨some 3, .bref (.t 0), none⟩, ⟨some 6, .mv (.c (.bool false)), none⟩])
  (.seq (.ops false [⟨some 8, .faddr 1 (.t 3), none⟩, ⟨some 9, .load none (.t 8), none⟩, ⟨some 10, .mv (.t 1), none⟩, ⟨some 11, .bin .eql (.t 9) (.t 10), none⟩, ⟨some 12, .mv (.t 11), none⟩, ⟨some 13, .faddr 2 (.t 3), some (12, true)⟩, ⟨some 14, .load none (.t 13), some (12, true)⟩, ⟨some 15, .bin .geq (.t 14) (.c (.int .i64 1)), some (12, true)⟩, ⟨some 16, .pick (.t 12) (.t 15) (.c (.bool false)), none⟩, ⟨some 17, .mv (.t 16), none⟩, ⟨some 18, .faddr 2 (.t 3), some (17, true)⟩, ⟨some 19, .load none (.t 18), some (17, true)⟩, ⟨some 20, .bin .leq (.t 19) (.c (.int .i64 8)), some (17, true)⟩, ⟨some 21, .pick (.t 17) (.t 20) (.c (.bool false)), none⟩, ⟨some 22, .mv (.t 21), none⟩, ⟨some 23, .mv (.t 1), some (22, true)⟩, ⟨some 24, .faddr 2 (.t 3), some (22, true)⟩, ⟨some 25, .load none (.t 24), some (22, true)⟩, ⟨some 26, .bin .sub (.c (.int .i64 1000)) (.t 25), some (22, true)⟩, ⟨some 27, .bin .leq (.t 23) (.t 26), some (22, true)⟩, ⟨some 28, .pick (.t 22) (.t 27) (.c (.bool false)), none⟩, ⟨some 7, .mv (.t 28), none⟩])
  (.seq (.seq (.ops false [⟨some 29, .faddr 0 (.t 3), none⟩, ⟨some 30, .load none (.t 29), none⟩])
  (.block 0 (.seq (.block 3 (.seq (.block 2 (.seq (.block 1 (.seq (.seq (.seq (.ops false [⟨some 32, .bin .eql (.t 30) (.c (.int .i64 2)), none⟩, ⟨some 31, .mv (.t 32), none⟩])
      (.cond (.t 31) (.exit 1)
       (.skip)))
      (.seq (.seq (.ops false [⟨some 34, .bin .eql (.t 30) (.c (.int .i64 3)), none⟩, ⟨some 33, .mv (.t 34), none⟩])
      (.cond (.t 33) (.exit 2)
       (.skip)))
      (.seq (.ops false [⟨some 36, .bin .eql (.t 30) (.c (.int .i64 1)), none⟩, ⟨some 35, .mv (.t 36), none⟩])
      (.cond (.t 35) (.exit 3)
       (.skip)))))
      (.exit 0)))
     (.ops false [⟨some 37, .mv (.t 7), none⟩, ⟨some 38, .mv (.t 37), none⟩, ⟨some 39, .faddr 4 (.t 3), some (38, true)⟩, ⟨some 40, .load none (.t 39), some (38, true)⟩, ⟨some 41, .len (.t 40), some (38, true)⟩, ⟨some 42, .faddr 2 (.t 3), some (38, true)⟩, ⟨some 43, .load none (.t 42), some (38, true)⟩, ⟨some 44, .bin .eql (.t 41) (.t 43), some (38, true)⟩, ⟨some 45, .pick (.t 38) (.t 44) (.c (.bool false)), none⟩, ⟨some 7, .mv (.t 45), none⟩])))
    (.seq (.seq (.ops false [⟨some 46, .mv (.t 7), none⟩, ⟨some 6, .mv (.t 46), none⟩])
    (.ret))
    (.exit 0))))
   (.seq (.seq (.ops false [⟨some 47, .mv (.t 7), none⟩, ⟨some 48, .mv (.t 47), none⟩, ⟨some 49, .faddr 3 (.t 3), some (48, true)⟩, ⟨some 50, .load none (.t 49), some (48, true)⟩, ⟨some 51, .bin .geq (.t 50) (.c (.int .i64 0)), some (48, true)⟩, ⟨some 52, .pick (.t 48) (.t 51) (.c (.bool false)), none⟩, ⟨some 53, .mv (.t 52), none⟩, ⟨some 54, .faddr 3 (.t 3), some (53, true)⟩, ⟨some 55, .load none (.t 54), some (53, true)⟩, ⟨some 56, .mv (.t 2), some (53, true)⟩, ⟨some 57, .bin .leq (.t 55) (.t 56), some (53, true)⟩, ⟨some 58, .pick (.t 53) (.t 57) (.c (.bool false)), none⟩, ⟨some 59, .mv (.t 58), none⟩, ⟨some 60, .faddr 2 (.t 3), some (59, true)⟩, ⟨some 61, .load none (.t 60), some (59, true)⟩, ⟨some 62, .mv (.t 2), some (59, true)⟩, ⟨some 63, .faddr 3 (.t 3), some (59, true)⟩, ⟨some 64, .load none (.t 63), some (59, true)⟩, ⟨some 65, .bin .sub (.t 62) (.t 64), some (59, true)⟩, ⟨some 66, .bin .leq (.t 61) (.t 65), some (59, true)⟩, ⟨some 67, .pick (.t 59) (.t 66) (.c (.bool false)), none⟩, ⟨some 6, .mv (.t 67), none⟩])
   (.ret))
   (.exit 0)))))
  (.seq (.ops false [⟨some 6, .mv (.c (.bool false)), none⟩])
  (.ret)))),
  [.t 6]⟩

/- noria/move.each$1 -/
def d_move_each_1 : DFun := ⟨
  .seq (.ops false [⟨some 8, .load none (.t 1), none⟩, ⟨some 9, .len (.t 8), none⟩, ⟨some 10, .mv (.c (.int .i64 0)), none⟩])
  (.block 0 (.loop [0, 2, 3, 8, 9, 10] (some 1) (.seq (.ops false [⟨some 11, .bin .lss (.t 10) (.t 9), none⟩])
    (.seq (.cond (.t 11) (.skip)
     (.exit 0))
    (.seq (.block 1 (.seq (.ops false [⟨some 12, .iaddr 6 (.t 8) (.t 10), none⟩, ⟨some 13, .load (some 6) (.t 12), none⟩, ⟨some 6, .alloc [.int .i64 0, .int .i64 0, .int .i64 0, .int .i64 0, .nil, .nil], none⟩, ⟨none, .store 6 (.t 6) (.t 13), none⟩])
     (.seq (.ops false [⟨some 14, .load (some 6) (.t 6), none⟩, ⟨some 15, .load none (.t 2), none⟩, ⟨some 16, .load none (.t 3), none⟩, ⟨some 17, .callP 45 [(.t 14), (.t 15), (.t 16)], none⟩, ⟨some 7, .alloc [.nil, .int .i64 0, .int .i64 0], none⟩, ⟨none, .store 3 (.t 7) (.t 17), none⟩])
     (.seq (.ops false [⟨some 18, .load none (.t 3), none⟩, ⟨some 19, .faddr 1 (.t 7), none⟩, ⟨some 20, .load none (.t 19), none⟩, ⟨some 21, .bin .sub (.t 18) (.t 20), none⟩, ⟨none, .store 1 (.t 3) (.t 21), none⟩])
     (.seq (.ops false [⟨some 22, .mv (.t 0), none⟩, ⟨some 23, .load (some 3) (.t 7), none⟩, ⟨some 24, .callvP (.t 22) [(.t 23)], none⟩, ⟨some 25, .un .not (.t 24), none⟩, ⟨some 26, .mv (.t 25), none⟩, ⟨some 27, .faddr 2 (.t 7), some (26, false)⟩, ⟨some 28, .load none (.t 27), some (26, false)⟩, ⟨some 29, .bin .neq (.t 28) (.c (.int .i64 0)), some (26, false)⟩, ⟨some 30, .pick (.t 26) (.c (.bool true)) (.t 29), none⟩])
     (.cond (.t 30) (.ret)
      (.skip)))))))
    (.ops false [⟨some 31, .bin .add (.t 10) (.c (.int .i64 1)), none⟩, ⟨some 10, .mv (.t 31), none⟩])))))),
  []⟩

/- noria/noriaref41.cells -/
/- noria/noriaref41.Value -/
/- noria/noriaref38.Here -/
/- noria/noriaref09.count -/
/- noria/noriaref09.few -/
/- noria/noriaref04.High -/
def d_noriaref04_High : DFun := ⟨
  .seq (.ops false [⟨some 2, .mv (.c (.bool false)), none⟩])
  (.seq (.ops false [⟨some 3, .mv (.t 0), none⟩, ⟨some 4, .callP 62 [(.t 3), (.c (.int .u8 65)), (.c (.int .u8 90))], none⟩, ⟨some 2, .mv (.t 4), none⟩])
  (.ret)),
  [.t 2]⟩

/- noria/noriaref04.Path -/
def d_noriaref04_Path : DFun := ⟨
  .seq (.ops false [⟨some 2, .mv (.c (.bool false)), none⟩])
  (.seq (.ops false [⟨some 8, .mv (.t 0), none⟩, ⟨some 9, .callP 88 [(.t 8), (.c (.int .u8 47))], none⟩, ⟨some 3, .mv (.t 9), none⟩])
  (.seq (.seq (.ops false [⟨some 4, .mv (.c (.int .i64 0)), none⟩])
  (.block 0 (.loop [3, 4] (some 0) (.seq (.seq (.ops false [⟨some 10, .mv (.t 4), none⟩, ⟨some 11, .mv (.t 3), none⟩, ⟨some 12, .len (.t 11), none⟩, ⟨some 13, .bin .lss (.t 10) (.t 12), none⟩])
    (.cond (.t 13) (.skip)
     (.exit 0)))
    (.seq (.block 1 (.seq (.ops false [⟨some 16, .mv (.t 3), none⟩, ⟨some 17, .mv (.t 4), none⟩, ⟨some 18, .iaddr 1 (.t 16) (.t 17), none⟩, ⟨some 19, .load none (.t 18), none⟩, ⟨some 20, .callP 88 [(.t 19), (.c (.int .u8 46))], none⟩, ⟨some 5, .mv (.t 20), none⟩])
     (.seq (.seq (.ops false [⟨some 21, .mv (.t 5), none⟩, ⟨some 22, .len (.t 21), none⟩, ⟨some 23, .bin .gtr (.t 22) (.c (.int .i64 2)), none⟩, ⟨some 24, .mv (.t 23), none⟩, ⟨some 25, .mv (.t 5), some (24, false)⟩, ⟨some 26, .iaddr 1 (.t 25) (.c (.int .i64 0)), some (24, false)⟩, ⟨some 27, .load none (.t 26), some (24, false)⟩, ⟨some 28, .callP 35 [(.t 27)], some (24, false)⟩, ⟨some 29, .un .not (.t 28), some (24, false)⟩, ⟨some 30, .pick (.t 24) (.c (.bool true)) (.t 29), none⟩])
     (.cond (.t 30) (.seq (.ops false [⟨some 2, .mv (.c (.bool false)), none⟩])
      (.ret))
      (.skip)))
     (.seq (.seq (.ops false [⟨some 31, .mv (.t 5), none⟩, ⟨some 32, .len (.t 31), none⟩, ⟨some 33, .bin .lss (.t 32) (.c (.int .i64 2)), none⟩])
     (.cond (.t 33) (.exit 1)
      (.skip)))
     (.seq (.ops false [⟨some 34, .mv (.t 5), none⟩, ⟨some 35, .iaddr 1 (.t 34) (.c (.int .i64 1)), none⟩, ⟨some 36, .load none (.t 35), none⟩, ⟨some 6, .mv (.t 36), none⟩])
     (.seq (.seq (.ops false [⟨some 37, .mv (.t 6), none⟩, ⟨some 38, .lenS (.t 37), none⟩, ⟨some 39, .bin .lss (.t 38) (.c (.int .i64 1)), none⟩, ⟨some 40, .mv (.t 39), none⟩, ⟨some 41, .mv (.t 6), some (40, false)⟩, ⟨some 42, .lenS (.t 41), some (40, false)⟩, ⟨some 43, .bin .gtr (.t 42) (.c (.int .i64 3)), some (40, false)⟩, ⟨some 44, .pick (.t 40) (.c (.bool true)) (.t 43), none⟩, ⟨some 45, .mv (.t 44), none⟩, ⟨some 46, .mv (.t 6), some (45, false)⟩, ⟨some 47, .index (.t 46) (.c (.int .i64 0)), some (45, false)⟩, ⟨some 48, .bin .eql (.t 47) (.c (.int .u8 48)), some (45, false)⟩, ⟨some 49, .pick (.t 45) (.c (.bool true)) (.t 48), none⟩])
     (.cond (.t 49) (.seq (.ops false [⟨some 2, .mv (.c (.bool false)), none⟩])
      (.ret))
      (.skip)))
     (.seq (.ops false [⟨some 7, .mv (.c (.int .i64 0)), none⟩])
     (.block 2 (.loop [3, 4, 6, 7] (some 0) (.seq (.seq (.ops false [⟨some 50, .mv (.t 7), none⟩, ⟨some 51, .mv (.t 6), none⟩, ⟨some 52, .lenS (.t 51), none⟩, ⟨some 53, .bin .lss (.t 50) (.t 52), none⟩])
       (.cond (.t 53) (.skip)
        (.exit 2)))
       (.seq (.block 3 (.seq (.ops false [⟨some 56, .mv (.t 6), none⟩, ⟨some 57, .mv (.t 7), none⟩, ⟨some 58, .index (.t 56) (.t 57), none⟩, ⟨some 59, .callP 89 [(.t 58), (.c (.int .u8 48)), (.c (.int .u8 57))], none⟩, ⟨some 60, .un .not (.t 59), none⟩])
        (.cond (.t 60) (.seq (.ops false [⟨some 2, .mv (.c (.bool false)), none⟩])
         (.ret))
         (.skip))))
       (.ops false [⟨some 54, .mv (.t 7), none⟩, ⟨some 55, .bin .add (.t 54) (.c (.int .i64 1)), none⟩, ⟨some 7, .mv (.t 55), none⟩]))))))))))))
    (.ops false [⟨some 14, .mv (.t 4), none⟩, ⟨some 15, .bin .add (.t 14) (.c (.int .i64 1)), none⟩, ⟨some 4, .mv (.t 15), none⟩]))))))
  (.seq (.ops false [⟨some 2, .mv (.c (.bool true)), none⟩])
  (.ret)))),
  [.t 2]⟩

/- noria/noriaref04.name -/
def d_noriaref04_name : DFun := ⟨
  .seq (.ops false [⟨some 6, .mv (.c (.bool false)), none⟩])
  (.seq (.seq (.ops false [⟨some 8, .mv (.t 0), none⟩, ⟨some 9, .lenS (.t 8), none⟩, ⟨some 10, .bin .lss (.t 9) (.c (.int .i64 1)), none⟩, ⟨some 11, .mv (.t 10), none⟩, ⟨some 12, .mv (.t 0), some (11, false)⟩, ⟨some 13, .lenS (.t 12), some (11, false)⟩, ⟨some 14, .bin .gtr (.t 13) (.c (.int .i64 12)), some (11, false)⟩, ⟨some 15, .pick (.t 11) (.c (.bool true)) (.t 14), none⟩, ⟨some 16, .mv (.t 15), none⟩, ⟨some 17, .mv (.t 0), some (16, false)⟩, ⟨some 18, .index (.t 17) (.c (.int .i64 0)), some (16, false)⟩, ⟨some 19, .mv (.t 1), some (16, false)⟩, ⟨some 20, .mv (.t 2), some (16, false)⟩, ⟨some 21, .callP 89 [(.t 18), (.t 19), (.t 20)], some (16, false)⟩, ⟨some 22, .un .not (.t 21), some (16, false)⟩, ⟨some 23, .pick (.t 16) (.c (.bool true)) (.t 22), none⟩])
  (.cond (.t 23) (.seq (.ops false [⟨some 6, .mv (.c (.bool false)), none⟩])
   (.ret))
   (.skip)))
  (.seq (.seq (.ops false [⟨some 7, .mv (.c (.int .i64 0)), none⟩])
  (.block 0 (.loop [0, 7] (some 0) (.seq (.seq (.ops false [⟨some 24, .mv (.t 7), none⟩, ⟨some 25, .mv (.t 0), none⟩, ⟨some 26, .lenS (.t 25), none⟩, ⟨some 27, .bin .lss (.t 24) (.t 26), none⟩])
    (.cond (.t 27) (.skip)
     (.exit 0)))
    (.seq (.block 1 (.seq (.ops false [⟨some 30, .mv (.t 0), none⟩, ⟨some 31, .mv (.t 7), none⟩, ⟨some 32, .index (.t 30) (.t 31), none⟩, ⟨some 33, .callP 89 [(.t 32), (.c (.int .u8 97)), (.c (.int .u8 122))], none⟩, ⟨some 34, .un .not (.t 33), none⟩, ⟨some 35, .mv (.t 34), none⟩, ⟨some 36, .mv (.t 0), some (35, true)⟩, ⟨some 37, .mv (.t 7), some (35, true)⟩, ⟨some 38, .index (.t 36) (.t 37), some (35, true)⟩, ⟨some 39, .callP 89 [(.t 38), (.c (.int .u8 65)), (.c (.int .u8 90))], some (35, true)⟩, ⟨some 40, .un .not (.t 39), some (35, true)⟩, ⟨some 41, .pick (.t 35) (.t 40) (.c (.bool false)), none⟩, ⟨some 42, .mv (.t 41), none⟩, ⟨some 43, .mv (.t 0), some (42, true)⟩, ⟨some 44, .mv (.t 7), some (42, true)⟩, ⟨some 45, .index (.t 43) (.t 44), some (42, true)⟩, ⟨some 46, .callP 89 [(.t 45), (.c (.int .u8 48)), (.c (.int .u8 57))], some (42, true)⟩, ⟨some 47, .un .not (.t 46), some (42, true)⟩, ⟨some 48, .pick (.t 42) (.t 47) (.c (.bool false)), none⟩, ⟨some 49, .mv (.t 48), none⟩, ⟨some 50, .mv (.t 0), some (49, true)⟩, ⟨some 51, .mv (.t 7), some (49, true)⟩, ⟨some 52, .index (.t 50) (.t 51), some (49, true)⟩, ⟨some 53, .bin .neq (.t 52) (.c (.int .u8 95)), some (49, true)⟩, ⟨some 54, .pick (.t 49) (.t 53) (.c (.bool false)), none⟩])
     (.cond (.t 54) (.seq (.ops false [⟨some 6, .mv (.c (.bool false)), none⟩])
      (.ret))
      (.skip))))
    (.ops false [⟨some 28, .mv (.t 7), none⟩, ⟨some 29, .bin .add (.t 28) (.c (.int .i64 1)), none⟩, ⟨some 7, .mv (.t 29), none⟩]))))))
  (.seq (.ops false [⟨some 6, .mv (.c (.bool true)), none⟩])
  (.ret)))),
  [.t 6]⟩

/- noria/noriaref04.Word -/
def d_noriaref04_Word : DFun := ⟨
  .seq (.ops false [⟨some 2, .mv (.c (.bool false)), none⟩])
  (.seq (.ops false [⟨some 5, .callP 90 [], none⟩, ⟨some 3, .mv (.t 5), none⟩])
  (.seq (.seq (.ops false [⟨some 4, .mv (.c (.int .i64 0)), none⟩])
  (.block 0 (.loop [0, 3, 4] (some 0) (.seq (.seq (.ops false [⟨some 6, .mv (.t 4), none⟩, ⟨some 7, .mv (.t 3), none⟩, ⟨some 8, .len (.t 7), none⟩, ⟨some 9, .bin .lss (.t 6) (.t 8), none⟩])
    (.cond (.t 9) (.skip)
     (.exit 0)))
    (.seq (.block 1 (.seq (.ops false [⟨some 12, .mv (.t 3), none⟩, ⟨some 13, .mv (.t 4), none⟩, ⟨some 14, .iaddr 1 (.t 12) (.t 13), none⟩, ⟨some 15, .load none (.t 14), none⟩, ⟨some 16, .mv (.t 0), none⟩, ⟨some 17, .bin .eql (.t 15) (.t 16), none⟩])
     (.cond (.t 17) (.seq (.ops false [⟨some 2, .mv (.c (.bool true)), none⟩])
      (.ret))
      (.skip))))
    (.ops false [⟨some 10, .mv (.t 4), none⟩, ⟨some 11, .bin .add (.t 10) (.c (.int .i64 1)), none⟩, ⟨some 4, .mv (.t 11), none⟩]))))))
  (.seq (.ops false [⟨some 2, .mv (.c (.bool false)), none⟩])
  (.ret)))),
  [.t 2]⟩

/- noria/noriaref29.Kind -/
def d_noriaref29_Kind : DFun := ⟨
  .seq (.ops false [⟨some 2, .box (.t 0), none⟩, ⟨some 4, .mv (.c (.bool false)), none⟩])
  (.seq (.ops false [⟨some 5, .mv (.t 1), none⟩, ⟨some 6, .bin .eql (.t 5) (.c (.int .i64 1)), none⟩, ⟨some 7, .mv (.t 6), none⟩, ⟨some 8, .mv (.t 1), some (7, false)⟩, ⟨some 9, .bin .eql (.t 8) (.c (.int .i64 2)), some (7, false)⟩, ⟨some 10, .pick (.t 7) (.c (.bool true)) (.t 9), none⟩, ⟨some 11, .mv (.t 10), none⟩, ⟨some 12, .mv (.t 1), some (11, false)⟩, ⟨some 13, .bin .geq (.t 12) (.c (.int .i64 3)), some (11, false)⟩, ⟨some 14, .mv (.t 13), some (11, false)⟩, ⟨some 15, .mv (.t 1), some (14, true)⟩, ⟨some 16, .faddr 0 (.t 2), some (14, true)⟩, ⟨some 17, .load none (.t 16), some (14, true)⟩, ⟨some 18, .len (.t 17), some (14, true)⟩, ⟨some 19, .bin .add (.c (.int .i64 3)) (.t 18), some (14, true)⟩, ⟨some 20, .bin .lss (.t 15) (.t 19), some (14, true)⟩, ⟨some 21, .pick (.t 14) (.t 20) (.c (.bool false)), some (11, false)⟩, ⟨some 22, .pick (.t 11) (.c (.bool true)) (.t 21), none⟩, ⟨some 4, .mv (.t 22), none⟩])
  (.ret)),
  [.t 4]⟩

/- noria/noriaref32.kinds -/
def d_noriaref32_kinds : DFun := ⟨
  .seq (.ops false [⟨some 3, .box (.t 1), none⟩, ⟨some 4, .mv (.c (.nil)), none⟩])
  (.seq (.seq (.ops false [⟨some 5, .mv (.c (.int .i64 0)), none⟩])
  (.block 0 (.loop [0, 3, 5] none (.seq (.seq (.ops false [⟨some 6, .mv (.t 5), none⟩, ⟨some 7, .load (some 3) (.t 3), none⟩, ⟨some 8, .callP 30 [(.t 7)], none⟩, ⟨some 9, .bin .lss (.t 6) (.t 8), none⟩])
    (.cond (.t 9) (.skip)
     (.exit 0)))
    (.seq (.block 1 (.ops false [⟨some 12, .mv (.t 0), none⟩, ⟨some 13, .load (some 3) (.t 3), none⟩, ⟨some 14, .callP 91 [(.t 13)], none⟩, ⟨some 15, .bslice true [.int .i64 0] [(some (.t 14))], none⟩, ⟨some 16, .append 1 (.t 12) (.t 15), none⟩, ⟨some 0, .mv (.t 16), none⟩]))
    (.ops false [⟨some 10, .mv (.t 5), none⟩, ⟨some 11, .bin .add (.t 10) (.c (.int .i64 1)), none⟩, ⟨some 5, .mv (.t 11), none⟩]))))))
  (.seq (.ops false [⟨some 17, .mv (.t 0), none⟩, ⟨some 4, .mv (.t 17), none⟩])
  (.ret))),
  [.t 4]⟩

/- noria/noriaref09.numbers -/
/- noria/noriaref09.named -/
/- noria/noriaref09.arms -/
/- noria/noriaref09.subs -/
/- noria/noriaref09.Const -/
/- noria/move.run -/
def d_move_run : DFun := ⟨
  .seq (.ops false [⟨some 3, .bref (.t 0), none⟩, ⟨some 6, .alloc [.nil, .int .i64 0, .int .i64 0], none⟩])
  (.seq (.ops false [⟨some 11, .mv (.t 1), none⟩, ⟨some 12, .faddr 2 (.t 3), none⟩, ⟨some 13, .load none (.t 12), none⟩, ⟨some 14, .make [.int .i64 0] (.t 13) (.t 13), none⟩, ⟨some 15, .bslice true [.nil] [(some (.t 11)), (some (.t 14))], none⟩, ⟨some 16, .callH 94 [(.t 15)], none⟩, ⟨some 7, .mv (.t 16), none⟩])
  (.seq (.ops false [⟨some 18, .faddr 5 (.t 3), none⟩, ⟨some 19, .load none (.t 18), none⟩, ⟨some 20, .mv (.t 7), none⟩, ⟨some 21, .mv (.t 2), none⟩, ⟨some 22, .callP 95 [(.t 19), (.t 20), (.t 21)], none⟩, ⟨some 17, .mv (.t 22), none⟩, ⟨some 23, .extract 0 (.t 17), none⟩, ⟨some 24, .extract 1 (.t 17), none⟩, ⟨some 25, .extract 2 (.t 17), none⟩, ⟨some 8, .mv (.t 23), none⟩, ⟨some 9, .mv (.t 24), none⟩, ⟨some 10, .mv (.t 25), none⟩])
  (.seq (.seq (.ops false [⟨some 26, .mv (.t 10), none⟩, ⟨some 27, .bin .neq (.t 26) (.c (.int .i64 0)), none⟩])
  (.cond (.t 27) (.seq (.ops false [⟨some 28, .mv (.t 9), none⟩, ⟨some 29, .mv (.t 10), none⟩, ⟨some 30, .build [.nil, .int .i64 0, .int .i64 0] [(0, 1, (.c (.nil))), (1, 1, (.t 28)), (2, 1, (.t 29))], none⟩, ⟨none, .store 3 (.t 6) (.t 30), none⟩])
   (.ret))
   (.skip)))
  (.seq (.ops false [⟨some 31, .mv (.t 8), none⟩, ⟨some 32, .mv (.t 1), none⟩, ⟨some 33, .len (.t 32), none⟩, ⟨some 34, .slice 1 (.t 31) (some (.t 33)) none none, none⟩, ⟨some 35, .mv (.t 9), none⟩, ⟨some 36, .build [.nil, .int .i64 0, .int .i64 0] [(0, 1, (.t 34)), (1, 1, (.t 35)), (2, 1, (.c (.int .i64 0)))], none⟩, ⟨none, .store 3 (.t 6) (.t 36), none⟩])
  (.ret))))),
  [.cell 6 (some 3)]⟩

/- noria/expr.Each -/
/- (noria/mtype.way).known -/
/- (noria/mtype.way).of -/
/- noria/mtype.Here -/
def d_mtype_Here : DFun := ⟨
  .seq (.ops false [⟨some 5, .box (.t 2), none⟩, ⟨some 6, .alloc [.int .i64 0, .int .i64 0, .int .i64 0], none⟩, ⟨some 7, .mv (.c (.bool false)), none⟩])
  (.seq (.seq (.ops false [⟨some 9, .mv (.t 0), none⟩, ⟨some 10, .load (some 3) (.t 5), none⟩, ⟨some 11, .callP 105 [(.t 9), (.t 10)], none⟩, ⟨some 12, .un .not (.t 11), none⟩])
  (.cond (.t 12) (.seq (.ops false [⟨some 13, .build [.int .i64 0, .int .i64 0, .int .i64 0] [], none⟩, ⟨none, .store 3 (.t 6) (.t 13), none⟩, ⟨some 7, .mv (.c (.bool false)), none⟩])
   (.ret))
   (.skip)))
  (.seq (.seq (.ops false [⟨some 14, .faddr 0 (.t 5), none⟩, ⟨some 15, .load none (.t 14), none⟩, ⟨some 16, .bin .neq (.t 15) (.c (.int .i64 3)), none⟩])
  (.cond (.t 16) (.seq (.ops false [⟨some 17, .load (some 3) (.t 5), none⟩, ⟨none, .store 3 (.t 6) (.t 17), none⟩, ⟨some 7, .mv (.c (.bool true)), none⟩])
   (.ret))
   (.skip)))
  (.seq (.seq (.ops false [⟨some 18, .mv (.t 1), none⟩, ⟨some 19, .len (.t 18), none⟩, ⟨some 20, .mv (.c (.int .i64 0)), none⟩])
  (.block 0 (.loop [0, 1, 5, 6, 19, 20] (some 2) (.seq (.ops false [⟨some 21, .bin .lss (.t 20) (.t 19), none⟩])
    (.seq (.cond (.t 21) (.skip)
     (.exit 0))
    (.seq (.block 1 (.seq (.ops false [⟨some 22, .mv (.t 20), none⟩, ⟨some 8, .mv (.t 22), none⟩])
     (.seq (.ops false [⟨some 23, .mv (.t 0), none⟩, ⟨some 24, .load (some 3) (.t 5), none⟩, ⟨some 25, .callP 107 [(.t 24)], none⟩, ⟨some 26, .mv (.t 1), none⟩, ⟨some 27, .mv (.t 8), none⟩, ⟨some 28, .build [.int .i64 0, .int .i64 0, .int .i64 0] [(0, 1, (.c (.int .i64 3))), (1, 1, (.t 27))], none⟩, ⟨some 29, .callP 106 [(.t 23), (.t 25), (.t 26), (.t 28)], none⟩])
     (.cond (.t 29) (.seq (.ops false [⟨some 30, .mv (.t 8), none⟩, ⟨some 31, .faddr 1 (.t 5), none⟩, ⟨none, .store 1 (.t 31) (.t 30), none⟩])
      (.seq (.ops false [⟨some 32, .load (some 3) (.t 5), none⟩, ⟨none, .store 3 (.t 6) (.t 32), none⟩, ⟨some 7, .mv (.c (.bool true)), none⟩])
      (.ret)))
      (.skip)))))
    (.ops false [⟨some 33, .bin .add (.t 20) (.c (.int .i64 1)), none⟩, ⟨some 20, .mv (.t 33), none⟩])))))))
  (.seq (.ops false [⟨some 34, .build [.int .i64 0, .int .i64 0, .int .i64 0] [], none⟩, ⟨none, .store 3 (.t 6) (.t 34), none⟩, ⟨some 7, .mv (.c (.bool false)), none⟩])
  (.ret))))),
  [.cell 6 (some 3), .t 7]⟩

/- slices.IndexFunc[[]noria/api.Slot,noria/api.Slot] -/
def d_slices_IndexFunc_api_Slot_api_Slot : DFun := ⟨
  .seq (.ops false [⟨some 4, .mv (.c (.int .i64 0)), none⟩])
  (.seq (.seq (.ops false [⟨some 6, .mv (.t 0), none⟩, ⟨some 7, .len (.t 6), none⟩, ⟨some 8, .mv (.c (.int .i64 0)), none⟩])
  (.block 0 (.loop [0, 1, 7, 8] (some 0) (.seq (.ops false [⟨some 9, .bin .lss (.t 8) (.t 7), none⟩])
    (.seq (.cond (.t 9) (.skip)
     (.exit 0))
    (.seq (.block 1 (.seq (.ops false [⟨some 10, .mv (.t 8), none⟩, ⟨some 5, .mv (.t 10), none⟩])
     (.seq (.ops false [⟨some 11, .mv (.t 1), none⟩, ⟨some 12, .mv (.t 0), none⟩, ⟨some 13, .mv (.t 5), none⟩, ⟨some 14, .iaddr 6 (.t 12) (.t 13), none⟩, ⟨some 15, .load (some 6) (.t 14), none⟩, ⟨some 16, .callvP (.t 11) [(.t 15)], none⟩])
     (.cond (.t 16) (.seq (.ops false [⟨some 17, .mv (.t 5), none⟩, ⟨some 4, .mv (.t 17), none⟩])
      (.ret))
      (.skip)))))
    (.ops false [⟨some 18, .bin .add (.t 8) (.c (.int .i64 1)), none⟩, ⟨some 8, .mv (.t 18), none⟩])))))))
  (.seq (.ops false [⟨some 4, .mv (.c (.int .i64 (-1))), none⟩])
  (.ret))),
  [.t 4]⟩

/- noria/tree.Find$1 -/
def d_tree_Find_1 : DFun := ⟨
  .seq (.ops false [⟨some 2, .box (.t 0), none⟩, ⟨some 3, .mv (.c (.bool false)), none⟩])
  (.seq (.ops false [⟨some 4, .faddr 0 (.t 2), none⟩, ⟨some 5, .load none (.t 4), none⟩, ⟨some 6, .load none (.t 1), none⟩, ⟨some 7, .bin .eql (.t 5) (.t 6), none⟩, ⟨some 3, .mv (.t 7), none⟩])
  (.ret)),
  [.t 3]⟩

/- slices.IndexFunc[[]noria/api.Move,noria/api.Move] -/
def d_slices_IndexFunc_api_Move_api_Move : DFun := ⟨
  .seq (.ops false [⟨some 4, .mv (.c (.int .i64 0)), none⟩])
  (.seq (.seq (.ops false [⟨some 6, .mv (.t 0), none⟩, ⟨some 7, .len (.t 6), none⟩, ⟨some 8, .mv (.c (.int .i64 0)), none⟩])
  (.block 0 (.loop [0, 1, 7, 8] (some 0) (.seq (.ops false [⟨some 9, .bin .lss (.t 8) (.t 7), none⟩])
    (.seq (.cond (.t 9) (.skip)
     (.exit 0))
    (.seq (.block 1 (.seq (.ops false [⟨some 10, .mv (.t 8), none⟩, ⟨some 5, .mv (.t 10), none⟩])
     (.seq (.ops false [⟨some 11, .mv (.t 1), none⟩, ⟨some 12, .mv (.t 0), none⟩, ⟨some 13, .mv (.t 5), none⟩, ⟨some 14, .iaddr 7 (.t 12) (.t 13), none⟩, ⟨some 15, .load (some 7) (.t 14), none⟩, ⟨some 16, .callvP (.t 11) [(.t 15)], none⟩])
     (.cond (.t 16) (.seq (.ops false [⟨some 17, .mv (.t 5), none⟩, ⟨some 4, .mv (.t 17), none⟩])
      (.ret))
      (.skip)))))
    (.ops false [⟨some 18, .bin .add (.t 8) (.c (.int .i64 1)), none⟩, ⟨some 8, .mv (.t 18), none⟩])))))))
  (.seq (.ops false [⟨some 4, .mv (.c (.int .i64 (-1))), none⟩])
  (.ret))),
  [.t 4]⟩

/- noria/plan.moved$1 -/
/- noria/mtype.Shape -/
/- (*noria/mtype.layer).cell -/
/- (*noria/mtype.layer).add -/
/- noria/noriaref15.Arm -/
/- noria/noriaref07.Un -/
/- noria/noriaref07.Bin -/
/- noria/noriaref05.Alike -/
/- noria/noriaref05.One -/
/- noria/noriaref04.cut -/
def d_noriaref04_cut : DFun := ⟨
  .seq (.ops false [⟨some 4, .mv (.c (.nil)), none⟩])
  (.seq (.ops false [⟨some 8, .bslice false [.str []] [], none⟩, ⟨some 5, .mv (.t 8), none⟩])
  (.seq (.ops false [⟨some 6, .mv (.c (.int .i64 0)), none⟩])
  (.seq (.seq (.ops false [⟨some 7, .mv (.c (.int .i64 0)), none⟩])
  (.block 0 (.loop [0, 1, 5, 6, 7] (some 1) (.seq (.seq (.ops false [⟨some 9, .mv (.t 7), none⟩, ⟨some 10, .mv (.t 0), none⟩, ⟨some 11, .lenS (.t 10), none⟩, ⟨some 12, .bin .leq (.t 9) (.t 11), none⟩])
    (.cond (.t 12) (.skip)
     (.exit 0)))
    (.seq (.block 1 (.seq (.ops false [⟨some 15, .mv (.t 7), none⟩, ⟨some 16, .mv (.t 0), none⟩, ⟨some 17, .lenS (.t 16), none⟩, ⟨some 18, .bin .eql (.t 15) (.t 17), none⟩, ⟨some 19, .mv (.t 18), none⟩, ⟨some 20, .mv (.t 0), some (19, false)⟩, ⟨some 21, .mv (.t 7), some (19, false)⟩, ⟨some 22, .index (.t 20) (.t 21), some (19, false)⟩, ⟨some 23, .mv (.t 1), some (19, false)⟩, ⟨some 24, .bin .eql (.t 22) (.t 23), some (19, false)⟩, ⟨some 25, .pick (.t 19) (.c (.bool true)) (.t 24), none⟩])
     (.cond (.t 25) (.seq (.ops false [⟨some 26, .mv (.t 5), none⟩, ⟨some 27, .mv (.t 0), none⟩, ⟨some 28, .mv (.t 6), none⟩, ⟨some 29, .mv (.t 7), none⟩, ⟨some 30, .sliceS (.t 27) (some (.t 28)) (some (.t 29)), none⟩, ⟨some 31, .bslice true [.str []] [(some (.t 30))], none⟩, ⟨some 32, .append 1 (.t 26) (.t 31), none⟩, ⟨some 5, .mv (.t 32), none⟩])
      (.ops false [⟨some 33, .mv (.t 7), none⟩, ⟨some 34, .bin .add (.t 33) (.c (.int .i64 1)), none⟩, ⟨some 6, .mv (.t 34), none⟩]))
      (.skip))))
    (.ops false [⟨some 13, .mv (.t 7), none⟩, ⟨some 14, .bin .add (.t 13) (.c (.int .i64 1)), none⟩, ⟨some 7, .mv (.t 14), none⟩]))))))
  (.seq (.ops false [⟨some 35, .mv (.t 5), none⟩, ⟨some 4, .mv (.t 35), none⟩])
  (.ret))))),
  [.t 4]⟩

/- noria/noriaref04.in -/
def d_noriaref04_in : DFun := ⟨
  .seq (.ops false [⟨some 6, .mv (.c (.bool false)), none⟩])
  (.seq (.ops false [⟨some 7, .mv (.t 0), none⟩, ⟨some 8, .mv (.t 1), none⟩, ⟨some 9, .bin .geq (.t 7) (.t 8), none⟩, ⟨some 10, .mv (.t 9), none⟩, ⟨some 11, .mv (.t 0), some (10, true)⟩, ⟨some 12, .mv (.t 2), some (10, true)⟩, ⟨some 13, .bin .leq (.t 11) (.t 12), some (10, true)⟩, ⟨some 14, .pick (.t 10) (.t 13) (.c (.bool false)), none⟩, ⟨some 6, .mv (.t 14), none⟩])
  (.ret)),
  [.t 6]⟩

/- noria/noriaref04.Words -/
def d_noriaref04_Words : DFun := ⟨
  .seq (.ops false [⟨some 0, .mv (.c (.nil)), none⟩])
  (.seq (.ops false [⟨some 1, .bslice true [.str []] [(some (.c (.str [110, 111, 100, 101]))), (some (.c (.str [114, 101, 116, 117, 114, 110, 115]))), (some (.c (.str [118, 97, 114]))), (some (.c (.str [108, 101, 116]))), (some (.c (.str [116, 101, 108]))), (some (.c (.str [101, 110, 117, 109]))), (some (.c (.str [105, 102]))), (some (.c (.str [116, 104, 101, 110]))), (some (.c (.str [101, 108, 115, 101]))), (some (.c (.str [102, 98, 121]))), (some (.c (.str [112, 114, 101]))), (some (.c (.str [119, 104, 101, 110]))), (some (.c (.str [109, 101, 114, 103, 101]))), (some (.c (.str [101, 118, 101, 114, 121]))), (some (.c (.str [110, 111, 116]))), (some (.c (.str [97, 110, 100]))), (some (.c (.str [111, 114]))), (some (.c (.str [120, 111, 114]))), (some (.c (.str [109, 111, 100]))), (some (.c (.str [116, 114, 117, 101]))), (some (.c (.str [102, 97, 108, 115, 101]))), (some (.c (.str [105, 110, 116]))), (some (.c (.str [98, 111, 111, 108]))), (some (.c (.str [119, 105, 116, 104])))], none⟩, ⟨some 0, .mv (.t 1), none⟩])
  (.ret)),
  [.t 0]⟩

/- noria/noriaref06.Kind -/
def d_noriaref06_Kind : DFun := ⟨
  .seq (.ops false [⟨some 1, .bref (.t 0), none⟩, ⟨some 2, .mv (.c (.int .i64 0)), none⟩])
  (.seq (.seq (.ops false [⟨some 3, .faddr 0 (.t 1), none⟩, ⟨some 4, .load none (.t 3), none⟩, ⟨some 5, .bin .eql (.t 4) (.c (.int .i64 1)), none⟩, ⟨some 6, .mv (.t 5), none⟩, ⟨some 7, .faddr 0 (.t 1), some (6, false)⟩, ⟨some 8, .load none (.t 7), some (6, false)⟩, ⟨some 9, .bin .eql (.t 8) (.c (.int .i64 2)), some (6, false)⟩, ⟨some 10, .pick (.t 6) (.c (.bool true)) (.t 9), none⟩])
  (.cond (.t 10) (.seq (.ops false [⟨some 11, .faddr 0 (.t 1), none⟩, ⟨some 12, .load none (.t 11), none⟩, ⟨some 2, .mv (.t 12), none⟩])
   (.ret))
   (.skip)))
  (.seq (.seq (.ops false [⟨some 13, .faddr 0 (.t 1), none⟩, ⟨some 14, .load none (.t 13), none⟩, ⟨some 15, .bin .eql (.t 14) (.c (.int .i64 3)), none⟩, ⟨some 16, .mv (.t 15), none⟩, ⟨some 17, .faddr 1 (.t 1), some (16, true)⟩, ⟨some 18, .load none (.t 17), some (16, true)⟩, ⟨some 19, .bin .geq (.t 18) (.c (.int .i64 0)), some (16, true)⟩, ⟨some 20, .pick (.t 16) (.t 19) (.c (.bool false)), none⟩, ⟨some 21, .mv (.t 20), none⟩, ⟨some 22, .faddr 1 (.t 1), some (21, true)⟩, ⟨some 23, .load none (.t 22), some (21, true)⟩, ⟨some 24, .bin .leq (.t 23) (.c (.int .i64 1000)), some (21, true)⟩, ⟨some 25, .pick (.t 21) (.t 24) (.c (.bool false)), none⟩])
  (.cond (.t 25) (.seq (.ops false [⟨some 26, .faddr 1 (.t 1), none⟩, ⟨some 27, .load none (.t 26), none⟩, ⟨some 28, .bin .add (.c (.int .i64 3)) (.t 27), none⟩, ⟨some 2, .mv (.t 28), none⟩])
   (.ret))
   (.skip)))
  (.seq (.ops false [⟨some 2, .mv (.c (.int .i64 0)), none⟩])
  (.ret)))),
  [.t 2]⟩

/- noria/noriaref09.arm -/
/- noria/noriaref09.literal -/
/- slices.Concat[[]int64,int64] -/
def d_slices_Concat_int64_int64 : DFun := ⟨
  .seq (.ops false [⟨some 2, .mv (.c (.nil)), none⟩])
  (.seq (.ops false [⟨some 3, .mv (.c (.int .i64 0)), none⟩])
  (.seq (.seq (.ops false [⟨some 9, .mv (.t 0), none⟩, ⟨some 10, .len (.t 9), none⟩, ⟨some 11, .mv (.c (.int .i64 0)), none⟩])
  (.block 0 (.loop [0, 3, 9, 10, 11] none (.seq (.ops false [⟨some 12, .bin .lss (.t 11) (.t 10), none⟩])
    (.seq (.cond (.t 12) (.skip)
     (.exit 0))
    (.seq (.block 1 (.seq (.ops false [⟨some 13, .iaddr 1 (.t 9) (.t 11), none⟩, ⟨some 14, .load none (.t 13), none⟩, ⟨some 5, .mv (.t 14), none⟩])
     (.seq (.ops false [⟨some 15, .mv (.t 3), none⟩, ⟨some 16, .mv (.t 5), none⟩, ⟨some 17, .len (.t 16), none⟩, ⟨some 18, .bin .add (.t 15) (.t 17), none⟩, ⟨some 3, .mv (.t 18), none⟩])
     (.seq (.ops false [⟨some 19, .mv (.t 3), none⟩, ⟨some 20, .bin .lss (.t 19) (.c (.int .i64 0)), none⟩])
     (.cond (.t 20) (.ops false [⟨some 21, .bad, none⟩, ⟨none, .bad, none⟩])
      (.skip))))))
    (.ops false [⟨some 22, .bin .add (.t 11) (.c (.int .i64 1)), none⟩, ⟨some 11, .mv (.t 22), none⟩])))))))
  (.seq (.ops false [⟨some 23, .mv (.t 3), none⟩, ⟨some 24, .callH 116 [(.c (.nil)), (.t 23)], none⟩, ⟨some 6, .mv (.t 24), none⟩])
  (.seq (.seq (.ops false [⟨some 25, .mv (.t 0), none⟩, ⟨some 26, .len (.t 25), none⟩, ⟨some 27, .mv (.c (.int .i64 0)), none⟩])
  (.block 2 (.loop [6, 25, 26, 27] none (.seq (.ops false [⟨some 28, .bin .lss (.t 27) (.t 26), none⟩])
    (.seq (.cond (.t 28) (.skip)
     (.exit 2))
    (.seq (.block 3 (.seq (.ops false [⟨some 29, .iaddr 1 (.t 25) (.t 27), none⟩, ⟨some 30, .load none (.t 29), none⟩, ⟨some 8, .mv (.t 30), none⟩])
     (.ops false [⟨some 31, .mv (.t 6), none⟩, ⟨some 32, .mv (.t 8), none⟩, ⟨some 33, .append 1 (.t 31) (.t 32), none⟩, ⟨some 6, .mv (.t 33), none⟩])))
    (.ops false [⟨some 34, .bin .add (.t 27) (.c (.int .i64 1)), none⟩, ⟨some 27, .mv (.t 34), none⟩])))))))
  (.seq (.ops false [⟨some 35, .mv (.t 6), none⟩, ⟨some 2, .mv (.t 35), none⟩])
  (.ret)))))),
  [.t 2]⟩

/- noria/vm.Run -/
def d_vm_Run : DFun := ⟨
  .seq (.ops false [⟨some 6, .mv (.c (.nil)), none⟩, ⟨some 7, .mv (.c (.int .i64 0)), none⟩, ⟨some 8, .mv (.c (.int .i64 0)), none⟩])
  (.seq (.ops false [⟨some 11, .mv (.t 1), none⟩, ⟨some 12, .callH 52 [(.t 11)], none⟩, ⟨some 13, .build [.nil, .int .i64 0, .int .i64 0, .int .i64 0, .int .i64 0, .int .i64 0, .int .i64 0, .int .i64 0, .int .i64 0, .int .i64 0, .int .i64 0, .int .i64 0, .int .i64 0, .int .i64 0, .int .i64 0, .int .i64 0, .int .i64 0, .int .i64 0, .int .i64 0, .int .i64 0] [(0, 1, (.t 12))], none⟩, ⟨some 14, .box (.t 13), none⟩, ⟨some 9, .mv (.t 14), none⟩])
  (.seq (.seq (.ops false [⟨some 15, .mv (.t 9), none⟩, ⟨some 16, .mv (.t 0), none⟩, ⟨some 17, .mv (.t 2), none⟩, ⟨some 18, .callH 117 [(.t 15), (.t 16), (.t 17)], none⟩, ⟨some 10, .mv (.t 18), none⟩])
  (.seq (.ops false [⟨some 19, .mv (.t 10), none⟩, ⟨some 20, .bin .neq (.t 19) (.c (.int .i64 0)), none⟩])
  (.cond (.t 20) (.seq (.opsP [(0, ⟨some 21, .mv (.t 1), none⟩), (2, ⟨some 23, .mv (.t 9), none⟩), (3, ⟨some 24, .nilck (.t 23), none⟩), (4, ⟨some 25, .faddr 19 (.t 24), none⟩), (5, ⟨some 26, .load none (.t 25), none⟩), (6, ⟨some 27, .mv (.t 10), none⟩), (1, ⟨some 22, .callP 52 [(.t 21)], none⟩), (7, ⟨some 6, .mv (.t 22), none⟩), (8, ⟨some 7, .mv (.t 26), none⟩), (9, ⟨some 8, .mv (.t 27), none⟩)])
   (.ret))
   (.skip))))
  (.seq (.ops true [⟨some 28, .mv (.t 9), none⟩, ⟨some 29, .nilck (.t 28), none⟩, ⟨some 30, .faddr 0 (.t 29), none⟩, ⟨some 31, .load none (.t 30), none⟩, ⟨some 32, .mv (.t 9), none⟩, ⟨some 33, .nilck (.t 32), none⟩, ⟨some 34, .faddr 19 (.t 33), none⟩, ⟨some 35, .load none (.t 34), none⟩, ⟨some 6, .mv (.t 31), none⟩, ⟨some 7, .mv (.t 35), none⟩, ⟨some 8, .mv (.c (.int .i64 0)), none⟩])
  (.ret)))),
  [.t 6, .t 7, .t 8]⟩

/- noria/expr.Each$1 -/
/- noria/expr.walk -/
/- (noria/mtype.way).slot -/
/- noria/scope.Arm -/
/- (noria/mtype.way).path -/
/- (noria/mtype.way).all -/
/- slices.ContainsFunc[[]noria/api.Ty,noria/api.Ty] -/
/- (noria/mtype.way).of$1 -/
/- (noria/mtype.way).plain -/
/- noria/ty.Right -/
def d_ty_Right : DFun := ⟨
  .seq (.ops false [⟨some 3, .box (.t 1), none⟩, ⟨some 4, .mv (.c (.bool false)), none⟩])
  (.seq (.seq (.ops false [⟨some 5, .faddr 2 (.t 3), none⟩, ⟨some 6, .load none (.t 5), none⟩, ⟨some 7, .bin .lss (.t 6) (.c (.int .i64 0)), none⟩, ⟨some 8, .mv (.t 7), none⟩, ⟨some 9, .faddr 2 (.t 3), some (8, false)⟩, ⟨some 10, .load none (.t 9), some (8, false)⟩, ⟨some 11, .bin .gtr (.t 10) (.c (.int .i64 8)), some (8, false)⟩, ⟨some 12, .pick (.t 8) (.c (.bool true)) (.t 11), none⟩])
  (.cond (.t 12) (.seq (.ops false [⟨some 4, .mv (.c (.bool false)), none⟩])
   (.ret))
   (.skip)))
  (.seq (.seq (.ops false [⟨some 13, .faddr 0 (.t 3), none⟩, ⟨some 14, .load none (.t 13), none⟩])
  (.block 0 (.seq (.seq (.ops false [⟨some 16, .bin .eql (.t 14) (.c (.int .i64 1)), none⟩, ⟨some 15, .mv (.t 16), none⟩])
   (.cond (.t 15) (.skip)
    (.ops false [⟨some 17, .bin .eql (.t 14) (.c (.int .i64 2)), none⟩, ⟨some 15, .mv (.t 17), none⟩])))
   (.cond (.t 15) (.seq (.ops false [⟨some 18, .faddr 1 (.t 3), none⟩, ⟨some 19, .load none (.t 18), none⟩, ⟨some 20, .bin .eql (.t 19) (.c (.int .i64 0)), none⟩, ⟨some 4, .mv (.t 20), none⟩])
    (.ret))
    (.seq (.ops false [⟨some 22, .bin .eql (.t 14) (.c (.int .i64 3)), none⟩, ⟨some 21, .mv (.t 22), none⟩])
    (.cond (.t 21) (.seq (.ops false [⟨some 23, .faddr 1 (.t 3), none⟩, ⟨some 24, .load none (.t 23), none⟩, ⟨some 25, .bin .geq (.t 24) (.c (.int .i64 0)), none⟩, ⟨some 26, .mv (.t 25), none⟩, ⟨some 27, .faddr 1 (.t 3), some (26, true)⟩, ⟨some 28, .load none (.t 27), some (26, true)⟩, ⟨some 29, .mv (.t 0), some (26, true)⟩, ⟨some 30, .len (.t 29), some (26, true)⟩, ⟨some 31, .bin .lss (.t 28) (.t 30), some (26, true)⟩, ⟨some 32, .pick (.t 26) (.t 31) (.c (.bool false)), none⟩, ⟨some 4, .mv (.t 32), none⟩])
     (.ret))
     (.skip)))))))
  (.seq (.ops false [⟨some 4, .mv (.c (.bool false)), none⟩])
  (.ret)))),
  [.t 4]⟩

/- noria/ty.Alike -/
def d_ty_Alike : DFun := ⟨
  .seq (.ops false [⟨some 5, .bref (.t 1), none⟩, ⟨some 7, .bref (.t 3), none⟩, ⟨some 8, .mv (.c (.bool false)), none⟩])
  (.seq (.seq (.ops false [⟨some 11, .mv (.t 0), none⟩, ⟨some 12, .load (some 3) (.t 5), none⟩, ⟨some 13, .callP 105 [(.t 11), (.t 12)], none⟩, ⟨some 14, .un .not (.t 13), none⟩, ⟨some 15, .mv (.t 14), none⟩, ⟨some 16, .mv (.t 2), some (15, false)⟩, ⟨some 17, .load (some 3) (.t 7), some (15, false)⟩, ⟨some 18, .callP 105 [(.t 16), (.t 17)], some (15, false)⟩, ⟨some 19, .un .not (.t 18), some (15, false)⟩, ⟨some 20, .pick (.t 15) (.c (.bool true)) (.t 19), none⟩, ⟨some 21, .mv (.t 20), none⟩, ⟨some 22, .faddr 0 (.t 5), some (21, false)⟩, ⟨some 23, .load none (.t 22), some (21, false)⟩, ⟨some 24, .faddr 0 (.t 7), some (21, false)⟩, ⟨some 25, .load none (.t 24), some (21, false)⟩, ⟨some 26, .bin .neq (.t 23) (.t 25), some (21, false)⟩, ⟨some 27, .pick (.t 21) (.c (.bool true)) (.t 26), none⟩, ⟨some 28, .mv (.t 27), none⟩, ⟨some 29, .faddr 2 (.t 5), some (28, false)⟩, ⟨some 30, .load none (.t 29), some (28, false)⟩, ⟨some 31, .faddr 2 (.t 7), some (28, false)⟩, ⟨some 32, .load none (.t 31), some (28, false)⟩, ⟨some 33, .bin .neq (.t 30) (.t 32), some (28, false)⟩, ⟨some 34, .pick (.t 28) (.c (.bool true)) (.t 33), none⟩])
  (.cond (.t 34) (.seq (.ops false [⟨some 8, .mv (.c (.bool false)), none⟩])
   (.ret))
   (.skip)))
  (.seq (.seq (.ops false [⟨some 35, .faddr 0 (.t 5), none⟩, ⟨some 36, .load none (.t 35), none⟩, ⟨some 37, .bin .neq (.t 36) (.c (.int .i64 3)), none⟩])
  (.cond (.t 37) (.seq (.ops false [⟨some 8, .mv (.c (.bool true)), none⟩])
   (.ret))
   (.skip)))
  (.seq (.rsv (.rsv (.opsS [] [(0, ⟨some 38, .mv (.t 0), none⟩), (1, ⟨some 39, .im (.faddr 1 (.t 5)), none⟩), (2, ⟨some 40, .im (.load none (.t 39)), none⟩), (3, ⟨some 41, .im (.iaddr 2 (.t 38) (.t 40)), none⟩), (4, ⟨some 42, .im (.load (some 2) (.t 41)), none⟩), (5, ⟨some 43, .mv (.t 2), none⟩), (6, ⟨some 44, .im (.faddr 1 (.t 7)), none⟩), (7, ⟨some 45, .im (.load none (.t 44)), none⟩), (8, ⟨some 46, .im (.iaddr 2 (.t 43) (.t 45)), none⟩), (9, ⟨some 47, .im (.load (some 2) (.t 46)), none⟩), (10, ⟨some 9, .aa 0 [.str [], .nil], none⟩), (11, ⟨some 10, .aa 1 [.str [], .nil], none⟩), (12, ⟨none, .store 2 (.t 9) (.t 42), none⟩), (13, ⟨none, .store 2 (.t 10) (.t 47), none⟩)])))
  (.seq (.ops false [⟨some 48, .faddr 0 (.t 9), none⟩, ⟨some 49, .load none (.t 48), none⟩, ⟨some 50, .faddr 0 (.t 10), none⟩, ⟨some 51, .load none (.t 50), none⟩, ⟨some 52, .bin .eql (.t 49) (.t 51), none⟩, ⟨some 53, .mv (.t 52), none⟩, ⟨some 54, .faddr 1 (.t 9), some (53, true)⟩, ⟨some 55, .load none (.t 54), some (53, true)⟩, ⟨some 56, .faddr 1 (.t 10), some (53, true)⟩, ⟨some 57, .load none (.t 56), some (53, true)⟩, ⟨some 58, .callP 122 [(.t 55), (.t 57)], some (53, true)⟩, ⟨some 59, .pick (.t 53) (.t 58) (.c (.bool false)), none⟩, ⟨some 8, .mv (.t 59), none⟩])
  (.ret))))),
  [.t 8]⟩

/- noria/ty.One -/
def d_ty_One : DFun := ⟨
  .seq (.ops false [⟨some 1, .box (.t 0), none⟩, ⟨some 2, .alloc [.int .i64 0, .int .i64 0, .int .i64 0], none⟩])
  (.seq (.ops false [⟨some 3, .faddr 2 (.t 1), none⟩, ⟨none, .store 1 (.t 3) (.c (.int .i64 0)), none⟩])
  (.seq (.ops false [⟨some 4, .load (some 3) (.t 1), none⟩, ⟨none, .store 3 (.t 2) (.t 4), none⟩])
  (.ret))),
  [.cell 2 (some 3)]⟩

/- noria/mtype.Shape$1 -/
/- noria/val.Kind -/
/- (*noria/mtype.layer).lay -/
/- (*noria/mtype.layer).load -/
/- noria/noriaref05.Ctor -/
/- noria/noriaref07.truth -/
/- noria/noriaref07.number -/
/- noria/noriaref01.Names -/
/- slices.Grow[[]int64,int64] -/
def d_slices_Grow_int64_int64 : DFun := ⟨
  .seq (.ops false [⟨some 4, .mv (.c (.nil)), none⟩])
  (.seq (.seq (.ops false [⟨some 5, .mv (.t 1), none⟩, ⟨some 6, .bin .lss (.t 5) (.c (.int .i64 0)), none⟩])
  (.cond (.t 6) (.ops false [⟨some 7, .bad, none⟩, ⟨none, .bad, none⟩])
   (.skip)))
  (.seq (.seq (.ops false [⟨some 8, .mv (.t 1), none⟩, ⟨some 9, .mv (.t 0), none⟩, ⟨some 10, .capn (.t 9), none⟩, ⟨some 11, .mv (.t 0), none⟩, ⟨some 12, .len (.t 11), none⟩, ⟨some 13, .bin .sub (.t 10) (.t 12), none⟩, ⟨some 14, .bin .sub (.t 8) (.t 13), none⟩, ⟨some 1, .mv (.t 14), none⟩])
  (.seq (.ops false [⟨some 15, .mv (.t 1), none⟩, ⟨some 16, .bin .gtr (.t 15) (.c (.int .i64 0)), none⟩])
  (.cond (.t 16) (.ops false [⟨some 17, .mv (.t 0), none⟩, ⟨some 18, .mv (.t 0), none⟩, ⟨some 19, .capn (.t 18), none⟩, ⟨some 20, .slice 1 (.t 17) none (some (.t 19)) none, none⟩, ⟨some 21, .mv (.t 1), none⟩, ⟨some 22, .appz 1 [.int .i64 0] (.t 20) (.t 21), none⟩, ⟨some 23, .mv (.t 0), none⟩, ⟨some 24, .len (.t 23), none⟩, ⟨some 25, .slice 1 (.t 22) none (some (.t 24)) none, none⟩, ⟨some 0, .home 1 (.t 25), none⟩])
   (.skip))))
  (.seq (.ops false [⟨some 26, .home 1 (.t 0), none⟩, ⟨some 4, .mv (.t 26), none⟩])
  (.ret)))),
  [.t 4]⟩

/- (*noria/vm.machine).run -/
def d_vm_machine_run : DFun := ⟨
  .seq (.ops false [⟨some 6, .mv (.c (.int .i64 0)), none⟩])
  (.scope (.seq (.ops false [⟨some 7, .mv (.c (.int .i64 0)), none⟩])
  (.seq (.skip)
  (.seq (.block 0 (.loop [0, 1, 2] none (.block 1 (.seq (.seq (.ops false [⟨some 9, .mv (.t 0), none⟩, ⟨some 10, .nilck (.t 9), none⟩, ⟨some 11, .faddr 18 (.t 10), none⟩, ⟨some 12, .load none (.t 11), none⟩, ⟨some 13, .mv (.t 1), none⟩, ⟨some 14, .len (.t 13), none⟩, ⟨some 15, .bin .geq (.t 12) (.t 14), none⟩])
     (.cond (.t 15) (.seq (.ops false [⟨some 6, .mv (.c (.int .i64 13)), none⟩])
      (.ret))
      (.skip)))
     (.seq (.seq (.ops false [⟨some 16, .mv (.t 0), none⟩, ⟨some 17, .nilck (.t 16), none⟩, ⟨some 18, .faddr 19 (.t 17), none⟩, ⟨some 19, .load none (.t 18), none⟩, ⟨some 20, .mv (.t 2), none⟩, ⟨some 21, .bin .geq (.t 19) (.t 20), none⟩])
     (.cond (.t 21) (.seq (.ops false [⟨some 6, .mv (.c (.int .i64 17)), none⟩])
      (.ret))
      (.skip)))
     (.seq (.ops false [⟨some 22, .mv (.t 1), none⟩, ⟨some 23, .mv (.t 0), none⟩, ⟨some 24, .nilck (.t 23), none⟩, ⟨some 25, .faddr 18 (.t 24), none⟩, ⟨some 26, .load none (.t 25), none⟩, ⟨some 27, .iaddr 4 (.t 22) (.t 26), none⟩, ⟨some 28, .load (some 4) (.t 27), none⟩, ⟨some 8, .alloc [.int .i64 0, .int .i64 0, .int .i64 0, .int .i64 0], none⟩, ⟨none, .store 4 (.t 8) (.t 28), none⟩])
     (.seq (.ops false [⟨some 29, .mv (.t 0), none⟩, ⟨some 30, .nilck (.t 29), none⟩, ⟨some 31, .faddr 19 (.t 30), none⟩, ⟨some 32, .load none (.t 31), none⟩, ⟨some 33, .bin .add (.t 32) (.c (.int .i64 1)), none⟩, ⟨some 34, .nilck (.t 29), none⟩, ⟨some 35, .faddr 19 (.t 34), none⟩, ⟨none, .store 1 (.t 35) (.t 33), none⟩])
     (.seq (.ops false [⟨some 36, .mv (.t 0), none⟩, ⟨some 37, .load (some 4) (.t 8), none⟩, ⟨some 38, .callH 126 [(.t 36), (.t 37)], none⟩, ⟨some 7, .mv (.t 38), none⟩])
     (.seq (.ops false [⟨some 39, .mv (.t 7), none⟩, ⟨some 40, .bin .neq (.t 39) (.c (.int .i64 0)), none⟩, ⟨some 41, .mv (.t 40), none⟩, ⟨some 42, .faddr 0 (.t 8), some (41, false)⟩, ⟨some 43, .load none (.t 42), some (41, false)⟩, ⟨some 44, .bin .eql (.t 43) (.c (.int .i64 10)), some (41, false)⟩, ⟨some 45, .pick (.t 41) (.c (.bool true)) (.t 44), none⟩])
     (.cond (.t 45) (.exit 0)
      (.skip)))))))))))
  (.seq (.ops false [⟨some 46, .mv (.t 7), none⟩, ⟨some 6, .mv (.t 46), none⟩])
  (.ret)))))),
  [.t 6]⟩

/- noria/ty.Ctor -/
/- slices.IndexFunc[[]noria/api.Ty,noria/api.Ty] -/
/- (noria/mtype.way).operate -/
/- (noria/mtype.way).place -/
/- slices.Equal[[]string,string] -/
def d_slices_Equal_string_string : DFun := ⟨
  .seq (.ops false [⟨some 4, .mv (.c (.bool false)), none⟩])
  (.seq (.seq (.ops false [⟨some 6, .mv (.t 0), none⟩, ⟨some 7, .len (.t 6), none⟩, ⟨some 8, .mv (.t 1), none⟩, ⟨some 9, .len (.t 8), none⟩, ⟨some 10, .bin .neq (.t 7) (.t 9), none⟩])
  (.cond (.t 10) (.seq (.ops false [⟨some 4, .mv (.c (.bool false)), none⟩])
   (.ret))
   (.skip)))
  (.seq (.seq (.ops false [⟨some 11, .mv (.t 0), none⟩, ⟨some 12, .len (.t 11), none⟩, ⟨some 13, .mv (.c (.int .i64 0)), none⟩])
  (.block 0 (.loop [0, 1, 12, 13] (some 0) (.seq (.ops false [⟨some 14, .bin .lss (.t 13) (.t 12), none⟩])
    (.seq (.cond (.t 14) (.skip)
     (.exit 0))
    (.seq (.block 1 (.seq (.ops false [⟨some 15, .mv (.t 13), none⟩, ⟨some 5, .mv (.t 15), none⟩])
     (.seq (.ops true [⟨some 16, .mv (.t 0), none⟩, ⟨some 17, .mv (.t 5), none⟩, ⟨some 18, .iaddr 1 (.t 16) (.t 17), none⟩, ⟨some 19, .load none (.t 18), none⟩, ⟨some 20, .mv (.t 1), none⟩, ⟨some 21, .mv (.t 5), none⟩, ⟨some 22, .iaddr 1 (.t 20) (.t 21), none⟩, ⟨some 23, .load none (.t 22), none⟩, ⟨some 24, .bin .neq (.t 19) (.t 23), none⟩])
     (.cond (.t 24) (.seq (.ops false [⟨some 4, .mv (.c (.bool false)), none⟩])
      (.ret))
      (.skip)))))
    (.ops false [⟨some 25, .bin .add (.t 13) (.c (.int .i64 1)), none⟩, ⟨some 13, .mv (.t 25), none⟩])))))))
  (.seq (.ops false [⟨some 4, .mv (.c (.bool true)), none⟩])
  (.ret)))),
  [.t 4]⟩

/- (*noria/mtype.layer).choice -/
/- (*noria/mtype.layer).operate -/
/- noria/noriaref07.quotient -/
/- (*noria/vm.machine).do -/
def d_vm_machine_do : DFun := ⟨
  .seq (.ops false [⟨some 3, .box (.t 1), none⟩, ⟨some 4, .mv (.c (.int .i64 0)), none⟩])
  (.seq (.seq (.ops false [⟨some 5, .load (some 4) (.t 3), none⟩, ⟨some 6, .callP 132 [(.t 5)], none⟩, ⟨some 7, .un .not (.t 6), none⟩])
  (.cond (.t 7) (.seq (.ops false [⟨some 4, .mv (.c (.int .i64 13)), none⟩])
   (.ret))
   (.skip)))
  (.seq (.ops false [⟨some 8, .mv (.t 0), none⟩, ⟨some 9, .nilck (.t 8), none⟩, ⟨some 10, .faddr 18 (.t 9), none⟩, ⟨some 11, .load none (.t 10), none⟩, ⟨some 12, .bin .add (.t 11) (.c (.int .i64 1)), none⟩, ⟨some 13, .nilck (.t 8), none⟩, ⟨some 14, .faddr 18 (.t 13), none⟩, ⟨none, .store 1 (.t 14) (.t 12), none⟩])
  (.seq (.seq (.ops false [⟨some 15, .faddr 0 (.t 3), none⟩, ⟨some 16, .load none (.t 15), none⟩])
  (.block 0 (.seq (.ops false [⟨some 18, .bin .eql (.t 16) (.c (.int .i64 1)), none⟩, ⟨some 17, .mv (.t 18), none⟩])
   (.cond (.t 17) (.seq (.ops false [⟨some 19, .mv (.t 0), none⟩, ⟨some 20, .faddr 3 (.t 3), none⟩, ⟨some 21, .load none (.t 20), none⟩, ⟨some 22, .callH 133 [(.t 19), (.t 21)], none⟩, ⟨some 4, .mv (.t 22), none⟩])
    (.ret))
    (.seq (.seq (.ops false [⟨some 24, .bin .eql (.t 16) (.c (.int .i64 2)), none⟩, ⟨some 23, .mv (.t 24), none⟩])
    (.cond (.t 23) (.skip)
     (.ops false [⟨some 25, .bin .eql (.t 16) (.c (.int .i64 3)), none⟩, ⟨some 23, .mv (.t 25), none⟩])))
    (.cond (.t 23) (.seq (.ops false [⟨some 26, .mv (.t 0), none⟩, ⟨some 27, .load (some 4) (.t 3), none⟩, ⟨some 28, .callH 134 [(.t 26), (.t 27)], none⟩, ⟨some 4, .mv (.t 28), none⟩])
     (.ret))
     (.seq (.seq (.ops false [⟨some 30, .bin .eql (.t 16) (.c (.int .i64 4)), none⟩, ⟨some 29, .mv (.t 30), none⟩])
     (.cond (.t 29) (.skip)
      (.ops false [⟨some 31, .bin .eql (.t 16) (.c (.int .i64 5)), none⟩, ⟨some 29, .mv (.t 31), none⟩])))
     (.cond (.t 29) (.seq (.ops false [⟨some 32, .mv (.t 0), none⟩, ⟨some 33, .load (some 4) (.t 3), none⟩, ⟨some 34, .callH 135 [(.t 32), (.t 33)], none⟩, ⟨some 4, .mv (.t 34), none⟩])
      (.ret))
      (.seq (.ops false [⟨some 36, .bin .eql (.t 16) (.c (.int .i64 6)), none⟩, ⟨some 35, .mv (.t 36), none⟩])
      (.cond (.t 35) (.ops false [⟨some 37, .mv (.t 0), none⟩, ⟨some 38, .faddr 1 (.t 3), none⟩, ⟨some 39, .load none (.t 38), none⟩, ⟨some 40, .nilck (.t 37), none⟩, ⟨some 41, .faddr 18 (.t 40), none⟩, ⟨none, .store 1 (.t 41) (.t 39), none⟩])
       (.seq (.ops false [⟨some 43, .bin .eql (.t 16) (.c (.int .i64 7)), none⟩, ⟨some 42, .mv (.t 43), none⟩])
       (.cond (.t 42) (.seq (.seq (.ops false [⟨some 44, .mv (.t 0), none⟩, ⟨some 45, .callH 136 [(.t 44), (.c (.int .i64 1))], none⟩, ⟨some 46, .un .not (.t 45), none⟩])
        (.cond (.t 46) (.seq (.ops false [⟨some 4, .mv (.c (.int .i64 13)), none⟩])
         (.ret))
         (.skip)))
        (.seq (.ops false [⟨some 47, .mv (.t 0), none⟩, ⟨some 48, .callH 137 [(.t 47)], none⟩, ⟨some 49, .bin .eql (.t 48) (.c (.int .i64 0)), none⟩])
        (.cond (.t 49) (.ops false [⟨some 50, .mv (.t 0), none⟩, ⟨some 51, .faddr 1 (.t 3), none⟩, ⟨some 52, .load none (.t 51), none⟩, ⟨some 53, .nilck (.t 50), none⟩, ⟨some 54, .faddr 18 (.t 53), none⟩, ⟨none, .store 1 (.t 54) (.t 52), none⟩])
         (.skip))))
        (.seq (.ops false [⟨some 56, .bin .eql (.t 16) (.c (.int .i64 8)), none⟩, ⟨some 55, .mv (.t 56), none⟩])
        (.cond (.t 55) (.seq (.ops false [⟨some 57, .mv (.t 0), none⟩, ⟨some 58, .load (some 4) (.t 3), none⟩, ⟨some 59, .callH 138 [(.t 57), (.t 58)], none⟩, ⟨some 4, .mv (.t 59), none⟩])
         (.ret))
         (.seq (.ops false [⟨some 61, .bin .eql (.t 16) (.c (.int .i64 9)), none⟩, ⟨some 60, .mv (.t 61), none⟩])
         (.cond (.t 60) (.seq (.ops false [⟨some 62, .mv (.t 0), none⟩, ⟨some 63, .load (some 4) (.t 3), none⟩, ⟨some 64, .callH 139 [(.t 62), (.t 63)], none⟩, ⟨some 4, .mv (.t 64), none⟩])
          (.ret))
          (.skip)))))))))))))))))
  (.seq (.ops false [⟨some 4, .mv (.c (.int .i64 0)), none⟩])
  (.ret))))),
  [.t 4]⟩

/- noria/ty.ctors -/
/- noria/arith.UnTy -/
/- noria/arith.BinTy -/
/- (*noria/mtype.layer).jump -/
/- noria/noriaref07.size -/
/- noria/instr.Right -/
def d_instr_Right : DFun := ⟨
  .seq (.ops false [⟨some 1, .box (.t 0), none⟩, ⟨some 2, .mv (.c (.bool false)), none⟩])
  (.seq (.ops false [⟨some 6, .faddr 0 (.t 1), none⟩, ⟨some 7, .load none (.t 6), none⟩, ⟨some 8, .callP 143 [(.t 7)], none⟩, ⟨some 5, .mv (.t 8), none⟩, ⟨some 9, .extract 0 (.t 5), none⟩, ⟨some 10, .extract 1 (.t 5), none⟩, ⟨some 3, .alloc [.str [], .bool false, .bool false, .bool false, .bool false], none⟩, ⟨none, .store 5 (.t 3) (.t 9), none⟩, ⟨some 4, .mv (.t 10), none⟩])
  (.seq (.seq (.ops false [⟨some 11, .mv (.t 4), none⟩, ⟨some 12, .un .not (.t 11), none⟩, ⟨some 13, .mv (.t 12), none⟩, ⟨some 14, .load (some 4) (.t 1), some (13, false)⟩, ⟨some 15, .callP 144 [(.t 14)], some (13, false)⟩, ⟨some 16, .un .not (.t 15), some (13, false)⟩, ⟨some 17, .pick (.t 13) (.c (.bool true)) (.t 16), none⟩, ⟨some 18, .mv (.t 17), none⟩, ⟨some 19, .faddr 4 (.t 3), some (18, false)⟩, ⟨some 20, .load none (.t 19), some (18, false)⟩, ⟨some 21, .un .not (.t 20), some (18, false)⟩, ⟨some 22, .mv (.t 21), some (18, false)⟩, ⟨some 23, .faddr 3 (.t 1), some (22, true)⟩, ⟨some 24, .load none (.t 23), some (22, true)⟩, ⟨some 25, .bin .neq (.t 24) (.c (.int .i64 0)), some (22, true)⟩, ⟨some 26, .pick (.t 22) (.t 25) (.c (.bool false)), some (18, false)⟩, ⟨some 27, .pick (.t 18) (.c (.bool true)) (.t 26), none⟩])
  (.cond (.t 27) (.seq (.ops false [⟨some 2, .mv (.c (.bool false)), none⟩])
   (.ret))
   (.skip)))
  (.seq (.seq (.ops false [⟨some 28, .faddr 3 (.t 3), none⟩, ⟨some 29, .load none (.t 28), none⟩])
  (.cond (.t 29) (.seq (.ops false [⟨some 30, .faddr 2 (.t 1), none⟩, ⟨some 31, .load none (.t 30), none⟩, ⟨some 32, .callP 145 [(.t 31), (.c (.int .i64 1)), (.c (.int .i64 8))], none⟩, ⟨some 2, .mv (.t 32), none⟩])
   (.ret))
   (.skip)))
  (.seq (.ops false [⟨some 33, .faddr 2 (.t 1), none⟩, ⟨some 34, .load none (.t 33), none⟩, ⟨some 35, .bin .eql (.t 34) (.c (.int .i64 0)), none⟩, ⟨some 2, .mv (.t 35), none⟩])
  (.ret))))),
  [.t 2]⟩

/- (*noria/vm.machine).push -/
def d_vm_machine_push : DFun := ⟨
  .seq (.ops false [⟨some 4, .mv (.c (.int .i64 0)), none⟩])
  (.seq (.seq (.ops false [⟨some 5, .mv (.t 0), none⟩, ⟨some 6, .nilck (.t 5), none⟩, ⟨some 7, .faddr 17 (.t 6), none⟩, ⟨some 8, .load none (.t 7), none⟩, ⟨some 9, .bin .eql (.t 8) (.c (.int .i64 16)), none⟩])
  (.cond (.t 9) (.seq (.ops false [⟨some 4, .mv (.c (.int .i64 13)), none⟩])
   (.ret))
   (.skip)))
  (.seq (.ops true [⟨some 10, .mv (.t 0), none⟩, ⟨some 11, .mv (.t 0), none⟩, ⟨some 12, .nilck (.t 11), none⟩, ⟨some 13, .faddr 17 (.t 12), none⟩, ⟨some 14, .load none (.t 13), none⟩, ⟨some 15, .mv (.t 1), none⟩, ⟨some 16, .nilck (.t 10), none⟩, ⟨some 17, .faddr 1 (.t 16), none⟩, ⟨some 18, .iaddrA 16 1 (.t 17) (.t 14), none⟩, ⟨none, .store 1 (.t 18) (.t 15), none⟩])
  (.seq (.ops false [⟨some 19, .mv (.t 0), none⟩, ⟨some 20, .nilck (.t 19), none⟩, ⟨some 21, .faddr 17 (.t 20), none⟩, ⟨some 22, .load none (.t 21), none⟩, ⟨some 23, .bin .add (.t 22) (.c (.int .i64 1)), none⟩, ⟨some 24, .nilck (.t 19), none⟩, ⟨some 25, .faddr 17 (.t 24), none⟩, ⟨none, .store 1 (.t 25) (.t 23), none⟩])
  (.seq (.ops false [⟨some 4, .mv (.c (.int .i64 0)), none⟩])
  (.ret))))),
  [.t 4]⟩

/- (*noria/vm.machine).move -/
def d_vm_machine_move : DFun := ⟨
  .seq (.ops false [⟨some 3, .box (.t 1), none⟩, ⟨some 4, .mv (.c (.int .i64 0)), none⟩])
  (.seq (.seq (.ops false [⟨some 5, .mv (.t 0), none⟩, ⟨some 6, .faddr 1 (.t 3), none⟩, ⟨some 7, .load none (.t 6), none⟩, ⟨some 8, .callH 146 [(.t 5), (.t 7), (.c (.int .i64 1))], none⟩, ⟨some 9, .un .not (.t 8), none⟩])
  (.cond (.t 9) (.seq (.ops false [⟨some 4, .mv (.c (.int .i64 13)), none⟩])
   (.ret))
   (.skip)))
  (.seq (.seq (.ops false [⟨some 10, .faddr 0 (.t 3), none⟩, ⟨some 11, .load none (.t 10), none⟩, ⟨some 12, .bin .eql (.t 11) (.c (.int .i64 2)), none⟩])
  (.cond (.t 12) (.seq (.ops true [⟨some 13, .mv (.t 0), none⟩, ⟨some 14, .mv (.t 0), none⟩, ⟨some 15, .nilck (.t 14), none⟩, ⟨some 16, .faddr 0 (.t 15), none⟩, ⟨some 17, .load none (.t 16), none⟩, ⟨some 18, .faddr 1 (.t 3), none⟩, ⟨some 19, .load none (.t 18), none⟩, ⟨some 20, .iaddr 1 (.t 17) (.t 19), none⟩, ⟨some 21, .load none (.t 20), none⟩, ⟨some 22, .callH 133 [(.t 13), (.t 21)], none⟩, ⟨some 4, .mv (.t 22), none⟩])
   (.ret))
   (.skip)))
  (.seq (.seq (.ops false [⟨some 23, .mv (.t 0), none⟩, ⟨some 24, .callH 136 [(.t 23), (.c (.int .i64 1))], none⟩, ⟨some 25, .un .not (.t 24), none⟩])
  (.cond (.t 25) (.seq (.ops false [⟨some 4, .mv (.c (.int .i64 13)), none⟩])
   (.ret))
   (.skip)))
  (.seq (.opsS [] [(0, ⟨some 26, .mv (.t 0), none⟩), (1, ⟨some 27, .rk 17 (.nilck (.t 26)), none⟩), (2, ⟨some 28, .rk 17 (.faddr 0 (.t 27)), none⟩), (3, ⟨some 29, .rk 17 (.load none (.t 28)), none⟩), (4, ⟨some 30, .rk 17 (.faddr 1 (.t 3)), none⟩), (5, ⟨some 31, .rk 17 (.load none (.t 30)), none⟩), (6, ⟨some 32, .mv (.t 0), none⟩), (7, ⟨some 33, .tk 32 17 (.callH 137 [(.t 32)]), none⟩), (8, ⟨some 34, .iaddr 1 (.t 29) (.t 31), none⟩), (9, ⟨none, .store 1 (.t 34) (.t 33), none⟩)])
  (.seq (.ops false [⟨some 4, .mv (.c (.int .i64 0)), none⟩])
  (.ret)))))),
  [.t 4]⟩

/- (*noria/vm.machine).operate -/
def d_vm_machine_operate : DFun := ⟨
  .seq (.ops false [⟨some 3, .box (.t 1), none⟩, ⟨some 4, .mv (.c (.int .i64 0)), none⟩])
  (.seq (.ops false [⟨some 5, .mv (.c (.int .i64 0)), none⟩])
  (.seq (.ops false [⟨some 6, .mv (.c (.int .i64 0)), none⟩])
  (.seq (.seq (.ops false [⟨some 8, .faddr 0 (.t 3), none⟩, ⟨some 9, .load none (.t 8), none⟩, ⟨some 10, .bin .eql (.t 9) (.c (.int .i64 4)), none⟩])
  (.cond (.t 10) (.seq (.seq (.ops false [⟨some 11, .mv (.t 0), none⟩, ⟨some 12, .callH 136 [(.t 11), (.c (.int .i64 1))], none⟩, ⟨some 13, .un .not (.t 12), none⟩])
   (.cond (.t 13) (.seq (.ops false [⟨some 4, .mv (.c (.int .i64 13)), none⟩])
    (.ret))
    (.skip)))
   (.opsS [(3, 17), (15, 17), (3, 0), (15, 0)] [(0, ⟨some 15, .faddr 1 (.t 3), none⟩), (1, ⟨some 16, .load none (.t 15), none⟩), (2, ⟨some 17, .mv (.t 0), none⟩), (3, ⟨some 18, .to 17 (.callH 137 [(.t 17)]), none⟩), (4, ⟨some 19, .rd (.callP 147 [(.t 16), (.t 18)]), none⟩), (5, ⟨some 14, .mv (.t 19), none⟩), (6, ⟨some 20, .extract 0 (.t 14), none⟩), (7, ⟨some 21, .extract 1 (.t 14), none⟩), (8, ⟨some 5, .mv (.t 20), none⟩), (9, ⟨some 6, .mv (.t 21), none⟩)]))
   (.seq (.seq (.ops false [⟨some 22, .mv (.t 0), none⟩, ⟨some 23, .callH 136 [(.t 22), (.c (.int .i64 2))], none⟩, ⟨some 24, .un .not (.t 23), none⟩])
   (.cond (.t 24) (.seq (.ops false [⟨some 4, .mv (.c (.int .i64 13)), none⟩])
    (.ret))
    (.skip)))
   (.seq (.ops false [⟨some 25, .mv (.t 0), none⟩, ⟨some 26, .callH 137 [(.t 25)], none⟩, ⟨some 7, .mv (.t 26), none⟩])
   (.opsS [(3, 30), (28, 30), (3, 0), (28, 0)] [(0, ⟨some 28, .faddr 1 (.t 3), none⟩), (1, ⟨some 29, .load none (.t 28), none⟩), (2, ⟨some 30, .mv (.t 0), none⟩), (4, ⟨some 32, .mv (.t 7), none⟩), (3, ⟨some 31, .to 30 (.callH 137 [(.t 30)]), none⟩), (5, ⟨some 33, .rd (.callP 148 [(.t 29), (.t 31), (.t 32)]), none⟩), (6, ⟨some 27, .mv (.t 33), none⟩), (7, ⟨some 34, .extract 0 (.t 27), none⟩), (8, ⟨some 35, .extract 1 (.t 27), none⟩), (9, ⟨some 5, .mv (.t 34), none⟩), (10, ⟨some 6, .mv (.t 35), none⟩)])))))
  (.seq (.seq (.ops false [⟨some 36, .mv (.t 6), none⟩, ⟨some 37, .bin .neq (.t 36) (.c (.int .i64 0)), none⟩])
  (.cond (.t 37) (.seq (.ops false [⟨some 38, .mv (.t 6), none⟩, ⟨some 4, .mv (.t 38), none⟩])
   (.ret))
   (.skip)))
  (.seq (.ops false [⟨some 39, .mv (.t 0), none⟩, ⟨some 40, .mv (.t 5), none⟩, ⟨some 41, .callH 133 [(.t 39), (.t 40)], none⟩, ⟨some 4, .mv (.t 41), none⟩])
  (.ret)))))),
  [.t 4]⟩

/- (*noria/vm.machine).has -/
def d_vm_machine_has : DFun := ⟨
  .seq (.ops false [⟨some 4, .mv (.c (.bool false)), none⟩])
  (.seq (.ops false [⟨some 5, .mv (.t 0), none⟩, ⟨some 6, .nilck (.t 5), none⟩, ⟨some 7, .faddr 17 (.t 6), none⟩, ⟨some 8, .load none (.t 7), none⟩, ⟨some 9, .mv (.t 1), none⟩, ⟨some 10, .bin .geq (.t 8) (.t 9), none⟩, ⟨some 4, .mv (.t 10), none⟩])
  (.ret)),
  [.t 4]⟩

/- (*noria/vm.machine).pop -/
def d_vm_machine_pop : DFun := ⟨
  .seq (.ops false [⟨some 2, .mv (.c (.int .i64 0)), none⟩])
  (.seq (.ops false [⟨some 3, .mv (.t 0), none⟩, ⟨some 4, .nilck (.t 3), none⟩, ⟨some 5, .faddr 17 (.t 4), none⟩, ⟨some 6, .load none (.t 5), none⟩, ⟨some 7, .bin .sub (.t 6) (.c (.int .i64 1)), none⟩, ⟨some 8, .nilck (.t 3), none⟩, ⟨some 9, .faddr 17 (.t 8), none⟩, ⟨none, .store 1 (.t 9) (.t 7), none⟩])
  (.seq (.ops true [⟨some 10, .mv (.t 0), none⟩, ⟨some 11, .mv (.t 0), none⟩, ⟨some 12, .nilck (.t 11), none⟩, ⟨some 13, .faddr 17 (.t 12), none⟩, ⟨some 14, .load none (.t 13), none⟩, ⟨some 15, .nilck (.t 10), none⟩, ⟨some 16, .faddr 1 (.t 15), none⟩, ⟨some 17, .iaddrA 16 1 (.t 16) (.t 14), none⟩, ⟨some 18, .load none (.t 17), none⟩, ⟨some 2, .mv (.t 18), none⟩])
  (.ret))),
  [.t 2]⟩

/- (*noria/vm.machine).get -/
def d_vm_machine_get : DFun := ⟨
  .seq (.ops false [⟨some 3, .box (.t 1), none⟩, ⟨some 4, .mv (.c (.int .i64 0)), none⟩])
  (.seq (.seq (.ops false [⟨some 6, .mv (.t 0), none⟩, ⟨some 7, .callH 136 [(.t 6), (.c (.int .i64 1))], none⟩, ⟨some 8, .un .not (.t 7), none⟩, ⟨some 9, .mv (.t 8), none⟩, ⟨some 10, .mv (.t 0), some (9, false)⟩, ⟨some 11, .faddr 1 (.t 3), some (9, false)⟩, ⟨some 12, .load none (.t 11), some (9, false)⟩, ⟨some 13, .faddr 2 (.t 3), some (9, false)⟩, ⟨some 14, .load none (.t 13), some (9, false)⟩, ⟨some 15, .callH 146 [(.t 10), (.t 12), (.t 14)], some (9, false)⟩, ⟨some 16, .un .not (.t 15), some (9, false)⟩, ⟨some 17, .pick (.t 9) (.c (.bool true)) (.t 16), none⟩])
  (.cond (.t 17) (.seq (.ops false [⟨some 4, .mv (.c (.int .i64 13)), none⟩])
   (.ret))
   (.skip)))
  (.seq (.ops false [⟨some 18, .mv (.t 0), none⟩, ⟨some 19, .callH 137 [(.t 18)], none⟩, ⟨some 5, .mv (.t 19), none⟩])
  (.seq (.seq (.ops false [⟨some 20, .mv (.t 5), none⟩, ⟨some 21, .bin .lss (.t 20) (.c (.int .i64 0)), none⟩, ⟨some 22, .mv (.t 21), none⟩, ⟨some 23, .mv (.t 5), some (22, false)⟩, ⟨some 24, .faddr 2 (.t 3), some (22, false)⟩, ⟨some 25, .load none (.t 24), some (22, false)⟩, ⟨some 26, .bin .geq (.t 23) (.t 25), some (22, false)⟩, ⟨some 27, .pick (.t 22) (.c (.bool true)) (.t 26), none⟩])
  (.cond (.t 27) (.seq (.ops false [⟨some 4, .mv (.c (.int .i64 16)), none⟩])
   (.ret))
   (.skip)))
  (.seq (.ops true [⟨some 28, .mv (.t 0), none⟩, ⟨some 29, .mv (.t 0), none⟩, ⟨some 30, .nilck (.t 29), none⟩, ⟨some 31, .faddr 0 (.t 30), none⟩, ⟨some 32, .load none (.t 31), none⟩, ⟨some 33, .faddr 1 (.t 3), none⟩, ⟨some 34, .load none (.t 33), none⟩, ⟨some 35, .slice 1 (.t 32) (some (.t 34)) none none, none⟩, ⟨some 36, .mv (.t 5), none⟩, ⟨some 37, .iaddr 1 (.t 35) (.t 36), none⟩, ⟨some 38, .load none (.t 37), none⟩, ⟨some 39, .callH 133 [(.t 28), (.t 38)], none⟩, ⟨some 4, .mv (.t 39), none⟩])
  (.ret))))),
  [.t 4]⟩

/- (*noria/vm.machine).put -/
def d_vm_machine_put : DFun := ⟨
  .seq (.ops false [⟨some 3, .box (.t 1), none⟩, ⟨some 4, .mv (.c (.int .i64 0)), none⟩])
  (.seq (.seq (.ops false [⟨some 7, .mv (.t 0), none⟩, ⟨some 8, .callH 136 [(.t 7), (.c (.int .i64 2))], none⟩, ⟨some 9, .un .not (.t 8), none⟩, ⟨some 10, .mv (.t 9), none⟩, ⟨some 11, .mv (.t 0), some (10, false)⟩, ⟨some 12, .faddr 1 (.t 3), some (10, false)⟩, ⟨some 13, .load none (.t 12), some (10, false)⟩, ⟨some 14, .faddr 2 (.t 3), some (10, false)⟩, ⟨some 15, .load none (.t 14), some (10, false)⟩, ⟨some 16, .callH 146 [(.t 11), (.t 13), (.t 15)], some (10, false)⟩, ⟨some 17, .un .not (.t 16), some (10, false)⟩, ⟨some 18, .pick (.t 10) (.c (.bool true)) (.t 17), none⟩])
  (.cond (.t 18) (.seq (.ops false [⟨some 4, .mv (.c (.int .i64 13)), none⟩])
   (.ret))
   (.skip)))
  (.seq (.ops false [⟨some 19, .mv (.t 0), none⟩, ⟨some 20, .callH 137 [(.t 19)], none⟩, ⟨some 5, .mv (.t 20), none⟩])
  (.seq (.ops false [⟨some 21, .mv (.t 0), none⟩, ⟨some 22, .callH 137 [(.t 21)], none⟩, ⟨some 6, .mv (.t 22), none⟩])
  (.seq (.seq (.ops false [⟨some 23, .mv (.t 5), none⟩, ⟨some 24, .bin .lss (.t 23) (.c (.int .i64 0)), none⟩, ⟨some 25, .mv (.t 24), none⟩, ⟨some 26, .mv (.t 5), some (25, false)⟩, ⟨some 27, .faddr 2 (.t 3), some (25, false)⟩, ⟨some 28, .load none (.t 27), some (25, false)⟩, ⟨some 29, .bin .geq (.t 26) (.t 28), some (25, false)⟩, ⟨some 30, .pick (.t 25) (.c (.bool true)) (.t 29), none⟩])
  (.cond (.t 30) (.seq (.ops false [⟨some 4, .mv (.c (.int .i64 16)), none⟩])
   (.ret))
   (.skip)))
  (.seq (.ops true [⟨some 31, .mv (.t 0), none⟩, ⟨some 32, .nilck (.t 31), none⟩, ⟨some 33, .faddr 0 (.t 32), none⟩, ⟨some 34, .load none (.t 33), none⟩, ⟨some 35, .faddr 1 (.t 3), none⟩, ⟨some 36, .load none (.t 35), none⟩, ⟨some 37, .slice 1 (.t 34) (some (.t 36)) none none, none⟩, ⟨some 38, .mv (.t 5), none⟩, ⟨some 39, .mv (.t 6), none⟩, ⟨some 40, .iaddr 1 (.t 37) (.t 38), none⟩, ⟨none, .store 1 (.t 40) (.t 39), none⟩])
  (.seq (.ops false [⟨some 4, .mv (.c (.int .i64 0)), none⟩])
  (.ret))))))),
  [.t 4]⟩

/- noria/ty.ctors$1 -/
/- noria/arith.group -/
def d_arith_group : DFun := ⟨
  .seq (.ops false [⟨some 2, .mv (.c (.int .i64 0)), none⟩])
  (.seq (.ops false [⟨some 3, .mv (.c (.int .i64 0)), none⟩])
  (.seq (.seq (.ops false [⟨some 4, .mv (.t 0), none⟩])
  (.block 0 (.seq (.block 6 (.block 5 (.seq (.block 4 (.seq (.block 3 (.seq (.block 2 (.block 1 (.seq (.seq (.seq (.seq (.ops false [⟨some 6, .bin .eql (.t 4) (.c (.int .i64 3)), none⟩, ⟨some 5, .mv (.t 6), none⟩])
         (.cond (.t 5) (.skip)
          (.seq (.ops false [⟨some 7, .bin .eql (.t 4) (.c (.int .i64 4)), none⟩, ⟨some 5, .mv (.t 7), none⟩])
          (.cond (.t 5) (.skip)
           (.ops false [⟨some 8, .bin .eql (.t 4) (.c (.int .i64 5)), none⟩, ⟨some 5, .mv (.t 8), none⟩])))))
         (.cond (.t 5) (.exit 1)
          (.skip)))
         (.seq (.seq (.seq (.ops false [⟨some 10, .bin .eql (.t 4) (.c (.int .i64 6)), none⟩, ⟨some 9, .mv (.t 10), none⟩])
         (.cond (.t 9) (.skip)
          (.ops false [⟨some 11, .bin .eql (.t 4) (.c (.int .i64 7)), none⟩, ⟨some 9, .mv (.t 11), none⟩])))
         (.cond (.t 9) (.exit 2)
          (.skip)))
         (.seq (.seq (.seq (.ops false [⟨some 13, .bin .eql (.t 4) (.c (.int .i64 8)), none⟩, ⟨some 12, .mv (.t 13), none⟩])
         (.cond (.t 12) (.skip)
          (.seq (.ops false [⟨some 14, .bin .eql (.t 4) (.c (.int .i64 9)), none⟩, ⟨some 12, .mv (.t 14), none⟩])
          (.cond (.t 12) (.skip)
           (.ops false [⟨some 15, .bin .eql (.t 4) (.c (.int .i64 10)), none⟩, ⟨some 12, .mv (.t 15), none⟩])))))
         (.cond (.t 12) (.exit 3)
          (.skip)))
         (.seq (.seq (.seq (.ops false [⟨some 17, .bin .eql (.t 4) (.c (.int .i64 11)), none⟩, ⟨some 16, .mv (.t 17), none⟩])
         (.cond (.t 16) (.skip)
          (.ops false [⟨some 18, .bin .eql (.t 4) (.c (.int .i64 12)), none⟩, ⟨some 16, .mv (.t 18), none⟩])))
         (.cond (.t 16) (.exit 4)
          (.skip)))
         (.seq (.seq (.seq (.ops false [⟨some 20, .bin .eql (.t 4) (.c (.int .i64 13)), none⟩, ⟨some 19, .mv (.t 20), none⟩])
         (.cond (.t 19) (.skip)
          (.ops false [⟨some 21, .bin .eql (.t 4) (.c (.int .i64 14)), none⟩, ⟨some 19, .mv (.t 21), none⟩])))
         (.cond (.t 19) (.exit 5)
          (.skip)))
         (.seq (.seq (.ops false [⟨some 23, .bin .eql (.t 4) (.c (.int .i64 15)), none⟩, ⟨some 22, .mv (.t 23), none⟩])
         (.cond (.t 22) (.skip)
          (.ops false [⟨some 24, .bin .eql (.t 4) (.c (.int .i64 16)), none⟩, ⟨some 22, .mv (.t 24), none⟩])))
         (.cond (.t 22) (.exit 6)
          (.skip))))))))
         (.exit 0))))
       (.seq (.ops false [⟨some 3, .mv (.c (.int .i64 1)), none⟩])
       (.exit 0))))
      (.seq (.ops false [⟨some 3, .mv (.c (.int .i64 2)), none⟩])
      (.exit 0))))
     (.seq (.ops false [⟨some 3, .mv (.c (.int .i64 4)), none⟩])
     (.exit 0)))))
   (.seq (.ops false [⟨some 3, .mv (.c (.int .i64 3)), none⟩])
   (.exit 0)))))
  (.seq (.ops false [⟨some 25, .mv (.t 3), none⟩, ⟨some 2, .mv (.t 25), none⟩])
  (.ret)))),
  [.t 2]⟩

/- (*noria/mtype.layer).jump$1 -/
/- noria/instr.of -/
def d_instr_of : DFun := ⟨
  .seq (.ops false [⟨some 2, .alloc [.str [], .bool false, .bool false, .bool false, .bool false], none⟩, ⟨some 3, .mv (.c (.bool false)), none⟩])
  (.seq (.seq (.ops false [⟨some 4, .mv (.t 0), none⟩])
  (.block 0 (.seq (.ops false [⟨some 6, .bin .eql (.t 4) (.c (.int .i64 1)), none⟩, ⟨some 5, .mv (.t 6), none⟩])
   (.cond (.t 5) (.seq (.ops false [⟨some 7, .build [.str [], .bool false, .bool false, .bool false, .bool false] [(0, 1, (.c (.str [112, 117, 115, 104]))), (1, 1, (.c (.bool true))), (4, 1, (.c (.bool true)))], none⟩, ⟨none, .store 5 (.t 2) (.t 7), none⟩, ⟨some 3, .mv (.c (.bool true)), none⟩])
    (.ret))
    (.seq (.ops false [⟨some 9, .bin .eql (.t 4) (.c (.int .i64 2)), none⟩, ⟨some 8, .mv (.t 9), none⟩])
    (.cond (.t 8) (.seq (.ops false [⟨some 10, .build [.str [], .bool false, .bool false, .bool false, .bool false] [(0, 1, (.c (.str [108, 111, 97, 100]))), (1, 1, (.c (.bool true)))], none⟩, ⟨none, .store 5 (.t 2) (.t 10), none⟩, ⟨some 3, .mv (.c (.bool true)), none⟩])
     (.ret))
     (.seq (.ops false [⟨some 12, .bin .eql (.t 4) (.c (.int .i64 3)), none⟩, ⟨some 11, .mv (.t 12), none⟩])
     (.cond (.t 11) (.seq (.ops false [⟨some 13, .build [.str [], .bool false, .bool false, .bool false, .bool false] [(0, 1, (.c (.str [115, 116, 111, 114, 101]))), (1, 1, (.c (.bool true)))], none⟩, ⟨none, .store 5 (.t 2) (.t 13), none⟩, ⟨some 3, .mv (.c (.bool true)), none⟩])
      (.ret))
      (.seq (.ops false [⟨some 15, .bin .eql (.t 4) (.c (.int .i64 4)), none⟩, ⟨some 14, .mv (.t 15), none⟩])
      (.cond (.t 14) (.seq (.ops false [⟨some 16, .build [.str [], .bool false, .bool false, .bool false, .bool false] [(0, 1, (.c (.str [117, 110]))), (2, 1, (.c (.bool true)))], none⟩, ⟨none, .store 5 (.t 2) (.t 16), none⟩, ⟨some 3, .mv (.c (.bool true)), none⟩])
       (.ret))
       (.seq (.ops false [⟨some 18, .bin .eql (.t 4) (.c (.int .i64 5)), none⟩, ⟨some 17, .mv (.t 18), none⟩])
       (.cond (.t 17) (.seq (.ops false [⟨some 19, .build [.str [], .bool false, .bool false, .bool false, .bool false] [(0, 1, (.c (.str [98, 105, 110]))), (2, 1, (.c (.bool true)))], none⟩, ⟨none, .store 5 (.t 2) (.t 19), none⟩, ⟨some 3, .mv (.c (.bool true)), none⟩])
        (.ret))
        (.seq (.ops false [⟨some 21, .bin .eql (.t 4) (.c (.int .i64 6)), none⟩, ⟨some 20, .mv (.t 21), none⟩])
        (.cond (.t 20) (.seq (.ops false [⟨some 22, .build [.str [], .bool false, .bool false, .bool false, .bool false] [(0, 1, (.c (.str [106, 117, 109, 112]))), (1, 1, (.c (.bool true)))], none⟩, ⟨none, .store 5 (.t 2) (.t 22), none⟩, ⟨some 3, .mv (.c (.bool true)), none⟩])
         (.ret))
         (.seq (.ops false [⟨some 24, .bin .eql (.t 4) (.c (.int .i64 7)), none⟩, ⟨some 23, .mv (.t 24), none⟩])
         (.cond (.t 23) (.seq (.ops false [⟨some 25, .build [.str [], .bool false, .bool false, .bool false, .bool false] [(0, 1, (.c (.str [122, 101, 114, 111]))), (1, 1, (.c (.bool true)))], none⟩, ⟨none, .store 5 (.t 2) (.t 25), none⟩, ⟨some 3, .mv (.c (.bool true)), none⟩])
          (.ret))
          (.seq (.ops false [⟨some 27, .bin .eql (.t 4) (.c (.int .i64 8)), none⟩, ⟨some 26, .mv (.t 27), none⟩])
          (.cond (.t 26) (.seq (.ops false [⟨some 28, .build [.str [], .bool false, .bool false, .bool false, .bool false] [(0, 1, (.c (.str [103, 101, 116]))), (1, 1, (.c (.bool true))), (3, 1, (.c (.bool true)))], none⟩, ⟨none, .store 5 (.t 2) (.t 28), none⟩, ⟨some 3, .mv (.c (.bool true)), none⟩])
           (.ret))
           (.seq (.ops false [⟨some 30, .bin .eql (.t 4) (.c (.int .i64 9)), none⟩, ⟨some 29, .mv (.t 30), none⟩])
           (.cond (.t 29) (.seq (.ops false [⟨some 31, .build [.str [], .bool false, .bool false, .bool false, .bool false] [(0, 1, (.c (.str [112, 117, 116]))), (1, 1, (.c (.bool true))), (3, 1, (.c (.bool true)))], none⟩, ⟨none, .store 5 (.t 2) (.t 31), none⟩, ⟨some 3, .mv (.c (.bool true)), none⟩])
            (.ret))
            (.seq (.ops false [⟨some 33, .bin .eql (.t 4) (.c (.int .i64 10)), none⟩, ⟨some 32, .mv (.t 33), none⟩])
            (.cond (.t 32) (.seq (.ops false [⟨some 34, .build [.str [], .bool false, .bool false, .bool false, .bool false] [(0, 1, (.c (.str [104, 97, 108, 116])))], none⟩, ⟨none, .store 5 (.t 2) (.t 34), none⟩, ⟨some 3, .mv (.c (.bool true)), none⟩])
             (.ret))
             (.skip)))))))))))))))))))))))
  (.seq (.ops false [⟨some 35, .build [.str [], .bool false, .bool false, .bool false, .bool false] [], none⟩, ⟨none, .store 5 (.t 2) (.t 35), none⟩, ⟨some 3, .mv (.c (.bool false)), none⟩])
  (.ret))),
  [.cell 2 (some 5), .t 3]⟩

/- noria/instr.first -/
def d_instr_first : DFun := ⟨
  .seq (.ops false [⟨some 1, .box (.t 0), none⟩, ⟨some 2, .mv (.c (.bool false)), none⟩])
  (.seq (.seq (.ops false [⟨some 3, .faddr 0 (.t 1), none⟩, ⟨some 4, .load none (.t 3), none⟩])
  (.block 0 (.seq (.ops false [⟨some 6, .bin .eql (.t 4) (.c (.int .i64 1)), none⟩, ⟨some 5, .mv (.t 6), none⟩])
   (.cond (.t 5) (.seq (.ops false [⟨some 7, .faddr 1 (.t 1), none⟩, ⟨some 8, .load none (.t 7), none⟩, ⟨some 9, .callP 145 [(.t 8), (.c (.int .i64 1)), (.c (.int .i64 1000))], none⟩, ⟨some 2, .mv (.t 9), none⟩])
    (.ret))
    (.seq (.ops false [⟨some 11, .bin .eql (.t 4) (.c (.int .i64 4)), none⟩, ⟨some 10, .mv (.t 11), none⟩])
    (.cond (.t 10) (.seq (.ops false [⟨some 12, .faddr 1 (.t 1), none⟩, ⟨some 13, .load none (.t 12), none⟩, ⟨some 14, .bin .eql (.t 13) (.c (.int .i64 1)), none⟩, ⟨some 15, .mv (.t 14), none⟩, ⟨some 16, .faddr 1 (.t 1), some (15, false)⟩, ⟨some 17, .load none (.t 16), some (15, false)⟩, ⟨some 18, .bin .eql (.t 17) (.c (.int .i64 2)), some (15, false)⟩, ⟨some 19, .pick (.t 15) (.c (.bool true)) (.t 18), none⟩, ⟨some 2, .mv (.t 19), none⟩])
     (.ret))
     (.seq (.ops false [⟨some 21, .bin .eql (.t 4) (.c (.int .i64 5)), none⟩, ⟨some 20, .mv (.t 21), none⟩])
     (.cond (.t 20) (.seq (.ops false [⟨some 22, .faddr 1 (.t 1), none⟩, ⟨some 23, .load none (.t 22), none⟩, ⟨some 24, .callP 145 [(.t 23), (.c (.int .i64 3)), (.c (.int .i64 16))], none⟩, ⟨some 2, .mv (.t 24), none⟩])
      (.ret))
      (.seq (.ops false [⟨some 26, .bin .eql (.t 4) (.c (.int .i64 10)), none⟩, ⟨some 25, .mv (.t 26), none⟩])
      (.cond (.t 25) (.seq (.ops false [⟨some 27, .faddr 1 (.t 1), none⟩, ⟨some 28, .load none (.t 27), none⟩, ⟨some 29, .bin .eql (.t 28) (.c (.int .i64 0)), none⟩, ⟨some 2, .mv (.t 29), none⟩])
       (.ret))
       (.skip)))))))))))
  (.seq (.ops false [⟨some 30, .faddr 1 (.t 1), none⟩, ⟨some 31, .load none (.t 30), none⟩, ⟨some 32, .callP 145 [(.t 31), (.c (.int .i64 0)), (.c (.int .i64 65535))], none⟩, ⟨some 2, .mv (.t 32), none⟩])
  (.ret))),
  [.t 2]⟩

/- noria/instr.within -/
def d_instr_within : DFun := ⟨
  .seq (.ops false [⟨some 6, .mv (.c (.bool false)), none⟩])
  (.seq (.ops false [⟨some 7, .mv (.t 0), none⟩, ⟨some 8, .mv (.t 1), none⟩, ⟨some 9, .bin .geq (.t 7) (.t 8), none⟩, ⟨some 10, .mv (.t 9), none⟩, ⟨some 11, .mv (.t 0), some (10, true)⟩, ⟨some 12, .mv (.t 2), some (10, true)⟩, ⟨some 13, .bin .leq (.t 11) (.t 12), some (10, true)⟩, ⟨some 14, .pick (.t 10) (.t 13) (.c (.bool false)), none⟩, ⟨some 6, .mv (.t 14), none⟩])
  (.ret)),
  [.t 6]⟩

/- (*noria/vm.machine).there -/
def d_vm_machine_there : DFun := ⟨
  .seq (.ops false [⟨some 6, .mv (.c (.bool false)), none⟩])
  (.seq (.ops false [⟨some 7, .mv (.t 1), none⟩, ⟨some 8, .mv (.t 0), none⟩, ⟨some 9, .nilck (.t 8), none⟩, ⟨some 10, .faddr 0 (.t 9), none⟩, ⟨some 11, .load none (.t 10), none⟩, ⟨some 12, .len (.t 11), none⟩, ⟨some 13, .mv (.t 2), none⟩, ⟨some 14, .bin .sub (.t 12) (.t 13), none⟩, ⟨some 15, .bin .leq (.t 7) (.t 14), none⟩, ⟨some 6, .mv (.t 15), none⟩])
  (.ret)),
  [.t 6]⟩

/- noria/arith.Un -/
def d_arith_Un : DFun := ⟨
  .seq (.ops false [⟨some 4, .mv (.c (.int .i64 0)), none⟩, ⟨some 5, .mv (.c (.int .i64 0)), none⟩])
  (.seq (.seq (.ops false [⟨some 6, .mv (.t 0), none⟩])
  (.block 0 (.seq (.ops false [⟨some 8, .bin .eql (.t 6) (.c (.int .i64 1)), none⟩, ⟨some 7, .mv (.t 8), none⟩])
   (.cond (.t 7) (.seq (.ops false [⟨some 9, .mv (.t 1), none⟩, ⟨some 10, .un .neg (.t 9), none⟩, ⟨some 4, .mv (.t 10), none⟩, ⟨some 5, .mv (.c (.int .i64 0)), none⟩])
    (.ret))
    (.seq (.ops false [⟨some 12, .bin .eql (.t 6) (.c (.int .i64 2)), none⟩, ⟨some 11, .mv (.t 12), none⟩])
    (.cond (.t 11) (.seq (.ops false [⟨some 13, .mv (.t 1), none⟩, ⟨some 14, .bin .eql (.t 13) (.c (.int .i64 0)), none⟩, ⟨some 15, .callP 149 [(.t 14)], none⟩, ⟨some 4, .mv (.t 15), none⟩, ⟨some 5, .mv (.c (.int .i64 0)), none⟩])
     (.ret))
     (.skip)))))))
  (.seq (.ops false [⟨some 4, .mv (.c (.int .i64 0)), none⟩, ⟨some 5, .mv (.c (.int .i64 1)), none⟩])
  (.ret))),
  [.t 4, .t 5]⟩

/- noria/arith.Bin -/
def d_arith_Bin : DFun := ⟨
  .seq (.ops false [⟨some 6, .mv (.c (.int .i64 0)), none⟩, ⟨some 7, .mv (.c (.int .i64 0)), none⟩])
  (.seq (.seq (.ops false [⟨some 8, .mv (.t 0), none⟩, ⟨some 9, .callP 141 [(.t 8)], none⟩])
  (.block 0 (.seq (.ops false [⟨some 11, .bin .eql (.t 9) (.c (.int .i64 0)), none⟩, ⟨some 10, .mv (.t 11), none⟩])
   (.cond (.t 10) (.seq (.ops false [⟨some 6, .mv (.c (.int .i64 0)), none⟩, ⟨some 7, .mv (.c (.int .i64 1)), none⟩])
    (.ret))
    (.seq (.ops false [⟨some 13, .bin .eql (.t 9) (.c (.int .i64 1)), none⟩, ⟨some 12, .mv (.t 13), none⟩])
    (.cond (.t 12) (.seq (.ops false [⟨some 14, .mv (.t 0), none⟩, ⟨some 15, .mv (.t 1), none⟩, ⟨some 16, .mv (.t 2), none⟩, ⟨some 17, .callP 150 [(.t 14), (.t 15), (.t 16)], none⟩, ⟨some 18, .extract 0 (.t 17), none⟩, ⟨some 19, .extract 1 (.t 17), none⟩, ⟨some 6, .mv (.t 18), none⟩, ⟨some 7, .mv (.t 19), none⟩])
     (.ret))
     (.skip)))))))
  (.seq (.ops false [⟨some 20, .mv (.t 0), none⟩, ⟨some 21, .mv (.t 1), none⟩, ⟨some 22, .mv (.t 2), none⟩, ⟨some 23, .callP 151 [(.t 20), (.t 21), (.t 22)], none⟩, ⟨some 24, .callP 149 [(.t 23)], none⟩, ⟨some 6, .mv (.t 24), none⟩, ⟨some 7, .mv (.c (.int .i64 0)), none⟩])
  (.ret))),
  [.t 6, .t 7]⟩

/- noria/arith.truth -/
def d_arith_truth : DFun := ⟨
  .seq (.ops false [⟨some 2, .mv (.c (.int .i64 0)), none⟩])
  (.seq (.seq (.ops false [⟨some 3, .mv (.t 0), none⟩])
  (.cond (.t 3) (.seq (.ops false [⟨some 2, .mv (.c (.int .i64 1)), none⟩])
   (.ret))
   (.skip)))
  (.seq (.ops false [⟨some 2, .mv (.c (.int .i64 0)), none⟩])
  (.ret))),
  [.t 2]⟩

/- noria/arith.number -/
def d_arith_number : DFun := ⟨
  .seq (.ops false [⟨some 6, .mv (.c (.int .i64 0)), none⟩, ⟨some 7, .mv (.c (.int .i64 0)), none⟩])
  (.seq (.seq (.ops false [⟨some 10, .mv (.t 0), none⟩])
  (.block 0 (.seq (.ops false [⟨some 12, .bin .eql (.t 10) (.c (.int .i64 3)), none⟩, ⟨some 11, .mv (.t 12), none⟩])
   (.cond (.t 11) (.seq (.ops false [⟨some 13, .mv (.t 1), none⟩, ⟨some 14, .mv (.t 2), none⟩, ⟨some 15, .bin .add (.t 13) (.t 14), none⟩, ⟨some 6, .mv (.t 15), none⟩, ⟨some 7, .mv (.c (.int .i64 0)), none⟩])
    (.ret))
    (.seq (.ops false [⟨some 17, .bin .eql (.t 10) (.c (.int .i64 4)), none⟩, ⟨some 16, .mv (.t 17), none⟩])
    (.cond (.t 16) (.seq (.ops false [⟨some 18, .mv (.t 1), none⟩, ⟨some 19, .mv (.t 2), none⟩, ⟨some 20, .bin .sub (.t 18) (.t 19), none⟩, ⟨some 6, .mv (.t 20), none⟩, ⟨some 7, .mv (.c (.int .i64 0)), none⟩])
     (.ret))
     (.seq (.ops false [⟨some 22, .bin .eql (.t 10) (.c (.int .i64 5)), none⟩, ⟨some 21, .mv (.t 22), none⟩])
     (.cond (.t 21) (.seq (.ops false [⟨some 23, .mv (.t 1), none⟩, ⟨some 24, .mv (.t 2), none⟩, ⟨some 25, .bin .mul (.t 23) (.t 24), none⟩, ⟨some 6, .mv (.t 25), none⟩, ⟨some 7, .mv (.c (.int .i64 0)), none⟩])
      (.ret))
      (.skip)))))))))
  (.seq (.seq (.ops false [⟨some 26, .mv (.t 2), none⟩, ⟨some 27, .bin .eql (.t 26) (.c (.int .i64 0)), none⟩])
  (.cond (.t 27) (.seq (.ops false [⟨some 6, .mv (.c (.int .i64 0)), none⟩, ⟨some 7, .mv (.c (.int .i64 15)), none⟩])
   (.ret))
   (.skip)))
  (.seq (.ops false [⟨some 29, .mv (.t 1), none⟩, ⟨some 30, .mv (.t 2), none⟩, ⟨some 31, .callP 152 [(.t 29), (.t 30)], none⟩, ⟨some 28, .mv (.t 31), none⟩, ⟨some 32, .extract 0 (.t 28), none⟩, ⟨some 33, .extract 1 (.t 28), none⟩, ⟨some 8, .mv (.t 32), none⟩, ⟨some 9, .mv (.t 33), none⟩])
  (.seq (.seq (.ops false [⟨some 34, .mv (.t 0), none⟩, ⟨some 35, .bin .eql (.t 34) (.c (.int .i64 6)), none⟩])
  (.cond (.t 35) (.seq (.ops false [⟨some 36, .mv (.t 8), none⟩, ⟨some 6, .mv (.t 36), none⟩, ⟨some 7, .mv (.c (.int .i64 0)), none⟩])
   (.ret))
   (.skip)))
  (.seq (.ops false [⟨some 37, .mv (.t 9), none⟩, ⟨some 6, .mv (.t 37), none⟩, ⟨some 7, .mv (.c (.int .i64 0)), none⟩])
  (.ret)))))),
  [.t 6, .t 7]⟩

/- noria/arith.holds -/
def d_arith_holds : DFun := ⟨
  .seq (.ops false [⟨some 6, .mv (.c (.bool false)), none⟩])
  (.seq (.seq (.ops false [⟨some 7, .mv (.t 0), none⟩])
  (.block 0 (.seq (.ops false [⟨some 9, .bin .eql (.t 7) (.c (.int .i64 8)), none⟩, ⟨some 8, .mv (.t 9), none⟩])
   (.cond (.t 8) (.seq (.ops false [⟨some 10, .mv (.t 1), none⟩, ⟨some 11, .bin .neq (.t 10) (.c (.int .i64 0)), none⟩, ⟨some 12, .mv (.t 11), none⟩, ⟨some 13, .mv (.t 2), some (12, true)⟩, ⟨some 14, .bin .neq (.t 13) (.c (.int .i64 0)), some (12, true)⟩, ⟨some 15, .pick (.t 12) (.t 14) (.c (.bool false)), none⟩, ⟨some 6, .mv (.t 15), none⟩])
    (.ret))
    (.seq (.ops false [⟨some 17, .bin .eql (.t 7) (.c (.int .i64 9)), none⟩, ⟨some 16, .mv (.t 17), none⟩])
    (.cond (.t 16) (.seq (.ops false [⟨some 18, .mv (.t 1), none⟩, ⟨some 19, .bin .neq (.t 18) (.c (.int .i64 0)), none⟩, ⟨some 20, .mv (.t 19), none⟩, ⟨some 21, .mv (.t 2), some (20, false)⟩, ⟨some 22, .bin .neq (.t 21) (.c (.int .i64 0)), some (20, false)⟩, ⟨some 23, .pick (.t 20) (.c (.bool true)) (.t 22), none⟩, ⟨some 6, .mv (.t 23), none⟩])
     (.ret))
     (.seq (.ops false [⟨some 25, .bin .eql (.t 7) (.c (.int .i64 10)), none⟩, ⟨some 24, .mv (.t 25), none⟩])
     (.cond (.t 24) (.seq (.ops false [⟨some 26, .mv (.t 1), none⟩, ⟨some 27, .bin .neq (.t 26) (.c (.int .i64 0)), none⟩, ⟨some 28, .mv (.t 2), none⟩, ⟨some 29, .bin .neq (.t 28) (.c (.int .i64 0)), none⟩, ⟨some 30, .beq true (.t 27) (.t 29), none⟩, ⟨some 6, .mv (.t 30), none⟩])
      (.ret))
      (.seq (.ops false [⟨some 32, .bin .eql (.t 7) (.c (.int .i64 11)), none⟩, ⟨some 31, .mv (.t 32), none⟩])
      (.cond (.t 31) (.seq (.ops false [⟨some 33, .mv (.t 1), none⟩, ⟨some 34, .mv (.t 2), none⟩, ⟨some 35, .bin .eql (.t 33) (.t 34), none⟩, ⟨some 6, .mv (.t 35), none⟩])
       (.ret))
       (.seq (.ops false [⟨some 37, .bin .eql (.t 7) (.c (.int .i64 12)), none⟩, ⟨some 36, .mv (.t 37), none⟩])
       (.cond (.t 36) (.seq (.ops false [⟨some 38, .mv (.t 1), none⟩, ⟨some 39, .mv (.t 2), none⟩, ⟨some 40, .bin .neq (.t 38) (.t 39), none⟩, ⟨some 6, .mv (.t 40), none⟩])
        (.ret))
        (.seq (.ops false [⟨some 42, .bin .eql (.t 7) (.c (.int .i64 13)), none⟩, ⟨some 41, .mv (.t 42), none⟩])
        (.cond (.t 41) (.seq (.ops false [⟨some 43, .mv (.t 1), none⟩, ⟨some 44, .mv (.t 2), none⟩, ⟨some 45, .bin .lss (.t 43) (.t 44), none⟩, ⟨some 6, .mv (.t 45), none⟩])
         (.ret))
         (.seq (.ops false [⟨some 47, .bin .eql (.t 7) (.c (.int .i64 14)), none⟩, ⟨some 46, .mv (.t 47), none⟩])
         (.cond (.t 46) (.seq (.ops false [⟨some 48, .mv (.t 1), none⟩, ⟨some 49, .mv (.t 2), none⟩, ⟨some 50, .bin .leq (.t 48) (.t 49), none⟩, ⟨some 6, .mv (.t 50), none⟩])
          (.ret))
          (.seq (.ops false [⟨some 52, .bin .eql (.t 7) (.c (.int .i64 15)), none⟩, ⟨some 51, .mv (.t 52), none⟩])
          (.cond (.t 51) (.seq (.ops false [⟨some 53, .mv (.t 1), none⟩, ⟨some 54, .mv (.t 2), none⟩, ⟨some 55, .bin .gtr (.t 53) (.t 54), none⟩, ⟨some 6, .mv (.t 55), none⟩])
           (.ret))
           (.skip)))))))))))))))))))
  (.seq (.ops false [⟨some 56, .mv (.t 1), none⟩, ⟨some 57, .mv (.t 2), none⟩, ⟨some 58, .bin .geq (.t 56) (.t 57), none⟩, ⟨some 6, .mv (.t 58), none⟩])
  (.ret))),
  [.t 6]⟩

/- noria/arith.divided -/
def d_arith_divided : DFun := ⟨
  .seq (.ops false [⟨some 4, .mv (.c (.int .i64 0)), none⟩, ⟨some 5, .mv (.c (.int .i64 0)), none⟩])
  (.seq (.seq (.ops false [⟨some 6, .mv (.t 1), none⟩, ⟨some 7, .bin .eql (.t 6) (.c (.int .i64 (-1))), none⟩])
  (.cond (.t 7) (.seq (.ops false [⟨some 8, .mv (.t 0), none⟩, ⟨some 9, .un .neg (.t 8), none⟩, ⟨some 4, .mv (.t 9), none⟩, ⟨some 5, .mv (.c (.int .i64 0)), none⟩])
   (.ret))
   (.skip)))
  (.seq (.ops true [⟨some 10, .mv (.t 0), none⟩, ⟨some 11, .mv (.t 1), none⟩, ⟨some 12, .bin .quo (.t 10) (.t 11), none⟩, ⟨some 13, .mv (.t 0), none⟩, ⟨some 14, .mv (.t 1), none⟩, ⟨some 15, .bin .rem (.t 13) (.t 14), none⟩, ⟨some 4, .mv (.t 12), none⟩, ⟨some 5, .mv (.t 15), none⟩])
  (.ret))),
  [.t 4, .t 5]⟩

end Go.Proofs.YtjgefhgkinocmaaGreat
