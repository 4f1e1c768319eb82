/- The data-level reading of the functions. -/
import Derived.Test.YtonpjojccjijfaaNkZ
set_option linter.all false
namespace Go.Proofs.Ytonpjojccjijfaa
open Go.Nk

/- noria/norialaw25.ObcClasses -/
def d_norialaw25_ObcClasses : DFun := ⟨
  .seq (.ops false [⟨some 1, .box (.t 0), none⟩, ⟨some 2, .mv (.c (.bool false)), none⟩])
  (.seq (.seq (.ops false [⟨some 7, .faddr 1 (.t 1), none⟩, ⟨some 8, .load none (.t 7), none⟩, ⟨some 9, .len (.t 8), none⟩, ⟨some 10, .bin .gtr (.t 9) (.c (.int .i64 20)), none⟩])
  (.cond (.t 10) (.seq (.ops false [⟨some 11, .callP 5 [], none⟩, ⟨some 2, .mv (.t 11), none⟩])
   (.ret))
   (.skip)))
  (.seq (.seq (.ops false [⟨some 3, .mv (.c (.int .i64 0)), none⟩])
  (.block 0 (.loop [1, 3] (some 1) (.seq (.seq (.ops false [⟨some 12, .mv (.t 3), none⟩, ⟨some 13, .faddr 1 (.t 1), none⟩, ⟨some 14, .load none (.t 13), none⟩, ⟨some 15, .len (.t 14), none⟩, ⟨some 16, .bin .lss (.t 12) (.t 15), none⟩])
    (.cond (.t 16) (.skip)
     (.exit 0)))
    (.seq (.block 1 (.seq (.ops false [⟨some 19, .faddr 1 (.t 1), none⟩, ⟨some 20, .load none (.t 19), none⟩, ⟨some 21, .mv (.t 3), none⟩, ⟨some 22, .iaddr 5 (.t 20) (.t 21), none⟩, ⟨some 23, .load (some 5) (.t 22), none⟩, ⟨some 24, .callP 6 [(.t 23)], none⟩, ⟨some 25, .un .not (.t 24), none⟩])
     (.cond (.t 25) (.seq (.ops false [⟨some 26, .callP 5 [], none⟩, ⟨some 2, .mv (.t 26), none⟩])
      (.ret))
      (.skip))))
    (.ops false [⟨some 17, .mv (.t 3), none⟩, ⟨some 18, .bin .add (.t 17) (.c (.int .i64 1)), none⟩, ⟨some 3, .mv (.t 18), none⟩]))))))
  (.seq (.opsP [(0, ⟨some 27, .load (some 2) (.t 1), none⟩), (2, ⟨some 29, .load (some 2) (.t 1), none⟩), (1, ⟨some 28, .callP 7 [(.t 27)], none⟩), (3, ⟨some 30, .callP 8 [(.t 29)], none⟩), (4, ⟨some 4, .mv (.t 28), none⟩), (5, ⟨some 5, .mv (.t 30), none⟩)])
  (.seq (.seq (.ops false [⟨some 31, .mv (.t 4), none⟩, ⟨some 32, .len (.t 31), none⟩, ⟨some 33, .mv (.t 5), none⟩, ⟨some 34, .len (.t 33), none⟩, ⟨some 35, .bin .neq (.t 32) (.t 34), none⟩])
  (.cond (.t 35) (.seq (.ops false [⟨some 2, .mv (.c (.bool false)), none⟩])
   (.ret))
   (.skip)))
  (.seq (.seq (.ops false [⟨some 6, .mv (.c (.int .i64 0)), none⟩])
  (.block 2 (.loop [1, 4, 5, 6] (some 1) (.seq (.seq (.ops false [⟨some 36, .mv (.t 6), none⟩, ⟨some 37, .mv (.t 4), none⟩, ⟨some 38, .len (.t 37), none⟩, ⟨some 39, .bin .lss (.t 36) (.t 38), none⟩])
    (.cond (.t 39) (.skip)
     (.exit 2)))
    (.seq (.block 3 (.seq (.opsP [(0, ⟨some 42, .mv (.t 4), none⟩), (1, ⟨some 43, .mv (.t 6), none⟩), (2, ⟨some 44, .iaddr 5 (.t 42) (.t 43), none⟩), (3, ⟨some 45, .load (some 5) (.t 44), none⟩), (4, ⟨some 46, .mv (.t 5), none⟩), (5, ⟨some 47, .mv (.t 6), none⟩), (6, ⟨some 48, .iaddr 5 (.t 46) (.t 47), none⟩), (7, ⟨some 49, .load (some 5) (.t 48), none⟩), (8, ⟨some 50, .callP 9 [(.t 45), (.t 49)], none⟩), (9, ⟨some 51, .un .not (.t 50), none⟩), (10, ⟨some 52, .mv (.t 51), none⟩), (11, ⟨some 53, .faddr 1 (.t 1), some (52, false)⟩), (12, ⟨some 54, .load none (.t 53), some (52, false)⟩), (13, ⟨some 55, .mv (.t 6), some (52, false)⟩), (14, ⟨some 56, .iaddr 5 (.t 54) (.t 55), some (52, false)⟩), (15, ⟨some 57, .load (some 5) (.t 56), some (52, false)⟩), (17, ⟨some 59, .mv (.t 5), some (52, false)⟩), (18, ⟨some 60, .mv (.t 6), some (52, false)⟩), (19, ⟨some 61, .iaddr 5 (.t 59) (.t 60), some (52, false)⟩), (20, ⟨some 62, .load (some 5) (.t 61), some (52, false)⟩), (16, ⟨some 58, .callP 10 [(.t 57)], some (52, false)⟩), (21, ⟨some 63, .callP 9 [(.t 58), (.t 62)], some (52, false)⟩), (22, ⟨some 64, .un .not (.t 63), some (52, false)⟩), (23, ⟨some 65, .pick (.t 52) (.c (.bool true)) (.t 64), none⟩)])
     (.cond (.t 65) (.seq (.ops false [⟨some 2, .mv (.c (.bool false)), none⟩])
      (.ret))
      (.skip))))
    (.ops false [⟨some 40, .mv (.t 6), none⟩, ⟨some 41, .bin .add (.t 40) (.c (.int .i64 1)), none⟩, ⟨some 6, .mv (.t 41), none⟩]))))))
  (.seq (.ops false [⟨some 66, .callP 5 [], none⟩, ⟨some 2, .mv (.t 66), none⟩])
  (.ret))))))),
  [.t 2]⟩

/- noria/norialaw25.ObcBlocks -/
def d_norialaw25_ObcBlocks : DFun := ⟨
  .seq (.ops false [⟨some 1, .box (.t 0), none⟩, ⟨some 2, .mv (.c (.bool false)), none⟩])
  (.seq (.seq (.ops false [⟨some 5, .load (some 5) (.t 1), none⟩, ⟨some 6, .callP 6 [(.t 5)], none⟩, ⟨some 7, .un .not (.t 6), none⟩])
  (.cond (.t 7) (.seq (.ops false [⟨some 8, .callP 5 [], none⟩, ⟨some 2, .mv (.t 8), none⟩])
   (.ret))
   (.skip)))
  (.seq (.ops false [⟨some 9, .load (some 5) (.t 1), none⟩, ⟨some 10, .callP 11 [(.t 9)], none⟩, ⟨some 3, .alloc [.str [], .nil, .nil, .nil, .nil], none⟩, ⟨none, .store 5 (.t 3) (.t 10), none⟩])
  (.seq (.ops false [⟨some 11, .load (some 5) (.t 3), none⟩, ⟨some 12, .callP 12 [(.t 11)], none⟩, ⟨some 4, .mv (.t 12), none⟩])
  (.seq (.ops false [⟨some 13, .load (some 5) (.t 3), none⟩, ⟨some 14, .callP 14 [(.t 13)], none⟩, ⟨some 15, .mv (.t 4), none⟩, ⟨some 16, .callP 13 [(.t 14), (.t 15)], none⟩, ⟨some 17, .mv (.t 16), none⟩, ⟨some 18, .mv (.t 4), some (17, true)⟩, ⟨some 19, .callP 16 [(.t 18)], some (17, true)⟩, ⟨some 20, .mv (.t 4), some (17, true)⟩, ⟨some 21, .callP 17 [(.t 20)], some (17, true)⟩, ⟨some 22, .callP 15 [(.t 19), (.t 21)], some (17, true)⟩, ⟨some 23, .pick (.t 17) (.t 22) (.c (.bool false)), none⟩, ⟨some 24, .mv (.t 23), none⟩, ⟨some 25, .callP 5 [], some (24, true)⟩, ⟨some 26, .pick (.t 24) (.t 25) (.c (.bool false)), none⟩, ⟨some 2, .mv (.t 26), none⟩])
  (.ret))))),
  [.t 2]⟩

/- noria/norialaw25.live -/
def d_norialaw25_live : DFun := ⟨
  .seq (.ops false [⟨some 0, .mv (.c (.bool false)), none⟩])
  (.seq (.ops false [⟨some 4, .bslice true [.str []] [(some (.c (.str [110])))], none⟩, ⟨some 5, .bslice true [.int .i64 0] [(some (.c (.int .i64 0)))], none⟩, ⟨some 6, .build [.str [], .int .i64 0] [(0, 1, (.c (.str [110, 46, 49])))], none⟩, ⟨some 7, .bslice true [.str [], .int .i64 0] [(some (.t 6))], none⟩, ⟨some 8, .build [.int .i64 0, .nil, .int .i64 0, .nil, .nil, .int .i64 0, .bool false, .str [], .int .i64 0, .nil] [(0, 1, (.c (.int .i64 5))), (1, 1, (.t 4)), (4, 1, (.t 5)), (3, 1, (.t 7))], none⟩, ⟨some 1, .alloc [.int .i64 0, .nil, .int .i64 0, .nil, .nil, .int .i64 0, .bool false, .str [], .int .i64 0, .nil], none⟩, ⟨none, .store 10 (.t 1) (.t 8), none⟩])
  (.seq (.ops false [⟨some 9, .bslice true [.str []] [(some (.c (.str [110, 46, 49])))], none⟩, ⟨some 10, .build [.str [], .int .i64 0] [(0, 1, (.c (.str [110])))], none⟩, ⟨some 11, .build [.str [], .int .i64 0] [(1, 1, (.c (.int .i64 1)))], none⟩, ⟨some 12, .bslice true [.str [], .int .i64 0] [(some (.t 10)), (some (.t 11))], none⟩, ⟨some 13, .build [.int .i64 0, .nil, .int .i64 0, .nil, .nil, .int .i64 0, .bool false, .str [], .int .i64 0, .nil] [(0, 1, (.c (.int .i64 3))), (2, 1, (.c (.int .i64 3))), (1, 1, (.t 9)), (3, 1, (.t 12))], none⟩, ⟨some 2, .alloc [.int .i64 0, .nil, .int .i64 0, .nil, .nil, .int .i64 0, .bool false, .str [], .int .i64 0, .nil], none⟩, ⟨none, .store 10 (.t 2) (.t 13), none⟩])
  (.seq (.ops false [⟨some 14, .load (some 10) (.t 1), none⟩, ⟨some 15, .load (some 10) (.t 2), none⟩, ⟨some 16, .bslice true [.int .i64 0, .nil, .int .i64 0, .nil, .nil, .int .i64 0, .bool false, .str [], .int .i64 0, .nil] [(some (.t 14)), (some (.t 15))], none⟩, ⟨some 17, .build [.str [], .nil, .nil, .nil, .nil] [(4, 1, (.t 16))], none⟩, ⟨some 18, .callP 10 [(.t 17)], none⟩, ⟨some 3, .alloc [.str [], .nil, .nil, .nil, .nil], none⟩, ⟨none, .store 5 (.t 3) (.t 18), none⟩])
  (.seq (.ops false [⟨some 19, .faddr 4 (.t 3), none⟩, ⟨some 20, .load none (.t 19), none⟩, ⟨some 21, .len (.t 20), none⟩, ⟨some 22, .bin .eql (.t 21) (.c (.int .i64 3)), none⟩, ⟨some 23, .mv (.t 22), none⟩, ⟨some 24, .faddr 4 (.t 3), some (23, true)⟩, ⟨some 25, .load none (.t 24), some (23, true)⟩, ⟨some 26, .iaddr 11 (.t 25) (.c (.int .i64 0)), some (23, true)⟩, ⟨some 27, .faddr 0 (.t 26), some (23, true)⟩, ⟨some 28, .load none (.t 27), some (23, true)⟩, ⟨some 29, .bin .eql (.t 28) (.c (.int .i64 2)), some (23, true)⟩, ⟨some 30, .pick (.t 23) (.t 29) (.c (.bool false)), none⟩, ⟨some 31, .mv (.t 30), none⟩, ⟨some 32, .faddr 4 (.t 3), some (31, true)⟩, ⟨some 33, .load none (.t 32), some (31, true)⟩, ⟨some 34, .iaddr 11 (.t 33) (.c (.int .i64 2)), some (31, true)⟩, ⟨some 35, .faddr 0 (.t 34), some (31, true)⟩, ⟨some 36, .load none (.t 35), some (31, true)⟩, ⟨some 37, .bin .eql (.t 36) (.c (.int .i64 3)), some (31, true)⟩, ⟨some 38, .pick (.t 31) (.t 37) (.c (.bool false)), none⟩, ⟨some 39, .mv (.t 38), none⟩, ⟨some 40, .load (some 5) (.t 3), some (39, true)⟩, ⟨some 41, .callP 14 [(.t 40)], some (39, true)⟩, ⟨some 42, .len (.t 41), some (39, true)⟩, ⟨some 43, .bin .eql (.t 42) (.c (.int .i64 1)), some (39, true)⟩, ⟨some 44, .pick (.t 39) (.t 43) (.c (.bool false)), none⟩, ⟨some 0, .mv (.t 44), none⟩])
  (.ret))))),
  [.t 0]⟩

/- noria/noriaref22.Few -/
def d_noriaref22_Few : DFun := ⟨
  .seq (.ops false [⟨some 1, .bref (.t 0), none⟩, ⟨some 2, .mv (.c (.bool false)), none⟩])
  (.seq (.ops false [⟨some 3, .load (some 5) (.t 1), none⟩, ⟨some 4, .callP 18 [(.t 3)], none⟩, ⟨some 2, .mv (.t 4), none⟩])
  (.ret)),
  [.t 2]⟩

/- noria/obc.Classes -/
def d_obc_Classes : DFun := ⟨
  .seq (.ops false [⟨some 1, .box (.t 0), none⟩, ⟨some 2, .mv (.c (.nil)), none⟩])
  (.seq (.ops false [⟨some 3, .mkown 5 (.c (.nil)), none⟩])
  (.seq (.seq (.ops false [⟨some 6, .faddr 1 (.t 1), none⟩, ⟨some 7, .load none (.t 6), none⟩, ⟨some 8, .len (.t 7), none⟩, ⟨some 9, .mv (.c (.int .i64 0)), none⟩])
  (.block 0 (.loop [3, 7, 8, 9] (some 2) (.seq (.ops false [⟨some 10, .bin .lss (.t 9) (.t 8), none⟩])
    (.seq (.cond (.t 10) (.skip)
     (.exit 0))
    (.seq (.block 1 (.seq (.ops false [⟨some 11, .iaddr 5 (.t 7) (.t 9), none⟩, ⟨some 12, .load (some 5) (.t 11), none⟩, ⟨some 5, .alloc [.str [], .nil, .nil, .nil, .nil], none⟩, ⟨none, .store 5 (.t 5) (.t 12), none⟩])
     (.ops false [⟨some 13, .mv (.t 3), none⟩, ⟨some 14, .load (some 5) (.t 5), none⟩, ⟨some 15, .callP 10 [(.t 14)], none⟩, ⟨some 16, .bslice true [.str [], .nil, .nil, .nil, .nil] [(some (.t 15))], none⟩, ⟨some 17, .append 5 (.t 13) (.t 16), none⟩, ⟨some 3, .mv (.t 17), none⟩])))
    (.ops false [⟨some 18, .bin .add (.t 9) (.c (.int .i64 1)), none⟩, ⟨some 9, .mv (.t 18), none⟩])))))))
  (.seq (.ops false [⟨some 19, .mv (.t 3), none⟩, ⟨some 2, .mv (.t 19), none⟩])
  (.ret)))),
  [.t 2]⟩

/- noria/noriaref25.Classes -/
def d_noriaref25_Classes : DFun := ⟨
  .seq (.ops false [⟨some 1, .box (.t 0), none⟩, ⟨some 2, .mv (.c (.nil)), none⟩])
  (.seq (.ops false [⟨some 5, .bslice false [.str [], .nil, .nil, .nil, .nil] [], none⟩, ⟨some 3, .mv (.t 5), none⟩])
  (.seq (.seq (.ops false [⟨some 4, .mv (.c (.int .i64 0)), none⟩])
  (.block 0 (.loop [1, 3, 4] (some 2) (.seq (.seq (.ops false [⟨some 6, .mv (.t 4), none⟩, ⟨some 7, .faddr 1 (.t 1), none⟩, ⟨some 8, .load none (.t 7), none⟩, ⟨some 9, .len (.t 8), none⟩, ⟨some 10, .bin .lss (.t 6) (.t 9), none⟩])
    (.cond (.t 10) (.skip)
     (.exit 0)))
    (.seq (.block 1 (.ops false [⟨some 13, .mv (.t 3), none⟩, ⟨some 14, .faddr 1 (.t 1), none⟩, ⟨some 15, .load none (.t 14), none⟩, ⟨some 16, .mv (.t 4), none⟩, ⟨some 17, .iaddr 5 (.t 15) (.t 16), none⟩, ⟨some 18, .load (some 5) (.t 17), none⟩, ⟨some 19, .callP 11 [(.t 18)], none⟩, ⟨some 20, .bslice true [.str [], .nil, .nil, .nil, .nil] [(some (.t 19))], none⟩, ⟨some 21, .append 5 (.t 13) (.t 20), none⟩, ⟨some 3, .mv (.t 21), none⟩]))
    (.ops false [⟨some 11, .mv (.t 4), none⟩, ⟨some 12, .bin .add (.t 11) (.c (.int .i64 1)), none⟩, ⟨some 4, .mv (.t 12), none⟩]))))))
  (.seq (.ops false [⟨some 22, .mv (.t 3), none⟩, ⟨some 2, .mv (.t 22), none⟩])
  (.ret)))),
  [.t 2]⟩

/- noria/noriaref25.Same -/
def d_noriaref25_Same : DFun := ⟨
  .seq (.ops false [⟨some 2, .box (.t 0), none⟩, ⟨some 3, .box (.t 1), none⟩, ⟨some 4, .mv (.c (.bool false)), none⟩])
  (.seq (.ops false [⟨some 7, .faddr 0 (.t 2), none⟩, ⟨some 8, .load none (.t 7), none⟩, ⟨some 9, .faddr 1 (.t 2), none⟩, ⟨some 10, .load none (.t 9), none⟩, ⟨some 11, .faddr 2 (.t 2), none⟩, ⟨some 12, .load none (.t 11), none⟩, ⟨some 13, .faddr 3 (.t 2), none⟩, ⟨some 14, .load none (.t 13), none⟩, ⟨some 15, .build [.str [], .nil, .nil, .nil, .nil] [(0, 1, (.t 8)), (1, 1, (.t 10)), (2, 1, (.t 12)), (3, 1, (.t 14))], none⟩, ⟨some 5, .alloc [.str [], .nil, .nil, .nil, .nil], none⟩, ⟨none, .store 5 (.t 5) (.t 15), none⟩])
  (.seq (.ops false [⟨some 16, .faddr 0 (.t 3), none⟩, ⟨some 17, .load none (.t 16), none⟩, ⟨some 18, .faddr 1 (.t 3), none⟩, ⟨some 19, .load none (.t 18), none⟩, ⟨some 20, .faddr 2 (.t 3), none⟩, ⟨some 21, .load none (.t 20), none⟩, ⟨some 22, .faddr 3 (.t 3), none⟩, ⟨some 23, .load none (.t 22), none⟩, ⟨some 24, .build [.str [], .nil, .nil, .nil, .nil] [(0, 1, (.t 17)), (1, 1, (.t 19)), (2, 1, (.t 21)), (3, 1, (.t 23))], none⟩, ⟨some 6, .alloc [.str [], .nil, .nil, .nil, .nil], none⟩, ⟨none, .store 5 (.t 6) (.t 24), none⟩])
  (.seq (.ops false [⟨some 25, .load (some 5) (.t 5), none⟩, ⟨some 26, .load (some 5) (.t 6), none⟩, ⟨some 27, .callP 19 [(.t 25), (.t 26)], none⟩, ⟨some 28, .mv (.t 27), none⟩, ⟨some 29, .faddr 4 (.t 2), some (28, true)⟩, ⟨some 30, .load none (.t 29), some (28, true)⟩, ⟨some 31, .faddr 4 (.t 3), some (28, true)⟩, ⟨some 32, .load none (.t 31), some (28, true)⟩, ⟨some 33, .callP 15 [(.t 30), (.t 32)], some (28, true)⟩, ⟨some 34, .pick (.t 28) (.t 33) (.c (.bool false)), none⟩, ⟨some 4, .mv (.t 34), none⟩])
  (.ret)))),
  [.t 4]⟩

/- noria/obc.Class -/
def d_obc_Class : DFun := ⟨
  .seq (.ops false [⟨some 1, .box (.t 0), none⟩, ⟨some 2, .alloc [.str [], .nil, .nil, .nil, .nil], none⟩])
  (.seq (.ops false [⟨some 8, .faddr 0 (.t 1), none⟩, ⟨some 9, .load none (.t 8), none⟩, ⟨some 10, .faddr 1 (.t 1), none⟩, ⟨some 11, .load none (.t 10), none⟩, ⟨some 12, .faddr 2 (.t 1), none⟩, ⟨some 13, .load none (.t 12), none⟩, ⟨some 14, .faddr 3 (.t 1), none⟩, ⟨some 15, .load none (.t 14), none⟩, ⟨some 16, .build [.str [], .nil, .nil, .nil, .nil] [(0, 1, (.t 9)), (1, 1, (.t 11)), (2, 1, (.t 13)), (3, 1, (.t 15))], none⟩, ⟨some 3, .alloc [.str [], .nil, .nil, .nil, .nil], none⟩, ⟨none, .store 5 (.t 3) (.t 16), none⟩])
  (.gown 3 4 11 (.seq (.ops false [⟨some 4, .mkown 11 (.c (.nil)), none⟩])
  (.seq (.seq (.ops false [⟨some 17, .faddr 4 (.t 1), none⟩, ⟨some 18, .load none (.t 17), none⟩, ⟨some 19, .len (.t 18), none⟩, ⟨some 20, .mv (.c (.int .i64 0)), none⟩])
  (.block 0 (.loop [2, 3, 4, 18, 19, 20] (some 5) (.seq (.ops false [⟨some 21, .bin .lss (.t 20) (.t 19), none⟩])
    (.seq (.cond (.t 21) (.skip)
     (.exit 0))
    (.seq (.block 1 (.seq (.ops false [⟨some 22, .iaddr 10 (.t 18) (.t 20), none⟩, ⟨some 23, .load (some 10) (.t 22), none⟩, ⟨some 6, .alloc [.int .i64 0, .nil, .int .i64 0, .nil, .nil, .int .i64 0, .bool false, .str [], .int .i64 0, .nil], none⟩, ⟨none, .store 10 (.t 6) (.t 23), none⟩])
     (.seq (.ops false [⟨some 24, .load (some 10) (.t 6), none⟩, ⟨some 25, .callP 20 [(.t 24)], none⟩, ⟨some 7, .mv (.t 25), none⟩])
     (.seq (.ops false [⟨some 26, .faddr 4 (.t 3), none⟩, ⟨some 27, .load none (.t 26), none⟩, ⟨some 28, .mv (.t 7), none⟩, ⟨some 29, .load (some 10) (.t 6), none⟩, ⟨some 30, .build [.int .i64 0, .int .i64 0, .nil, .int .i64 0, .nil, .nil, .int .i64 0, .bool false, .str [], .int .i64 0, .nil] [(0, 1, (.t 28)), (1, 10, (.t 29))], none⟩, ⟨some 31, .bslice true [.int .i64 0, .int .i64 0, .nil, .int .i64 0, .nil, .nil, .int .i64 0, .bool false, .str [], .int .i64 0, .nil] [(some (.t 30))], none⟩, ⟨some 32, .append 11 (.t 27) (.t 31), none⟩, ⟨some 33, .faddr 4 (.t 3), none⟩, ⟨none, .store 1 (.t 33) (.t 32), none⟩])
     (.seq (.ops false [⟨some 34, .mv (.t 7), none⟩, ⟨some 35, .bin .eql (.t 34) (.c (.int .i64 2)), none⟩])
     (.cond (.t 35) (.ops false [⟨some 36, .mv (.t 4), none⟩, ⟨some 37, .load (some 10) (.t 6), none⟩, ⟨some 38, .build [.int .i64 0, .int .i64 0, .nil, .int .i64 0, .nil, .nil, .int .i64 0, .bool false, .str [], .int .i64 0, .nil] [(0, 1, (.c (.int .i64 3))), (1, 10, (.t 37))], none⟩, ⟨some 39, .bslice true [.int .i64 0, .int .i64 0, .nil, .int .i64 0, .nil, .nil, .int .i64 0, .bool false, .str [], .int .i64 0, .nil] [(some (.t 38))], none⟩, ⟨some 40, .append 11 (.t 36) (.t 39), none⟩, ⟨some 4, .mv (.t 40), none⟩])
      (.skip)))))))
    (.ops false [⟨some 41, .bin .add (.t 20) (.c (.int .i64 1)), none⟩, ⟨some 20, .mv (.t 41), none⟩])))))))
  (.seq (.ops false [⟨some 42, .faddr 4 (.t 3), none⟩, ⟨some 43, .load none (.t 42), none⟩, ⟨some 44, .mv (.t 4), none⟩, ⟨some 45, .append 11 (.t 43) (.t 44), none⟩, ⟨some 46, .faddr 4 (.t 3), none⟩, ⟨none, .store 1 (.t 46) (.t 45), none⟩])
  (.seq (.ops false [⟨some 47, .load (some 5) (.t 3), none⟩, ⟨none, .store 5 (.t 2) (.t 47), none⟩])
  (.ret))))))),
  [.cell 2 (some 5)]⟩

/- noria/noriaref25.Class -/
def d_noriaref25_Class : DFun := ⟨
  .seq (.ops false [⟨some 1, .box (.t 0), none⟩, ⟨some 2, .alloc [.str [], .nil, .nil, .nil, .nil], none⟩])
  (.seq (.ops false [⟨some 7, .faddr 0 (.t 1), none⟩, ⟨some 8, .load none (.t 7), none⟩, ⟨some 9, .faddr 1 (.t 1), none⟩, ⟨some 10, .load none (.t 9), none⟩, ⟨some 11, .faddr 2 (.t 1), none⟩, ⟨some 12, .load none (.t 11), none⟩, ⟨some 13, .faddr 3 (.t 1), none⟩, ⟨some 14, .load none (.t 13), none⟩, ⟨some 15, .build [.str [], .nil, .nil, .nil, .nil] [(0, 1, (.t 8)), (1, 1, (.t 10)), (2, 1, (.t 12)), (3, 1, (.t 14))], none⟩, ⟨some 3, .alloc [.str [], .nil, .nil, .nil, .nil], none⟩, ⟨none, .store 5 (.t 3) (.t 15), none⟩])
  (.gown 3 4 11 (.seq (.seq (.ops false [⟨some 4, .mv (.c (.int .i64 0)), none⟩])
  (.block 0 (.loop [1, 2, 3, 4] (some 4) (.seq (.seq (.ops false [⟨some 16, .mv (.t 4), none⟩, ⟨some 17, .faddr 4 (.t 1), none⟩, ⟨some 18, .load none (.t 17), none⟩, ⟨some 19, .len (.t 18), none⟩, ⟨some 20, .bin .lss (.t 16) (.t 19), none⟩])
    (.cond (.t 20) (.skip)
     (.exit 0)))
    (.seq (.block 1 (.seq (.ops false [⟨some 5, .mv (.c (.int .i64 1)), none⟩])
     (.seq (.seq (.ops false [⟨some 23, .faddr 4 (.t 1), none⟩, ⟨some 24, .load none (.t 23), none⟩, ⟨some 25, .mv (.t 4), none⟩, ⟨some 26, .iaddr 10 (.t 24) (.t 25), none⟩, ⟨some 27, .faddr 0 (.t 26), none⟩, ⟨some 28, .load none (.t 27), none⟩, ⟨some 29, .bin .eql (.t 28) (.c (.int .i64 5)), none⟩])
     (.cond (.t 29) (.ops false [⟨some 5, .mv (.c (.int .i64 2)), none⟩])
      (.skip)))
     (.seq (.seq (.ops false [⟨some 30, .faddr 4 (.t 1), none⟩, ⟨some 31, .load none (.t 30), none⟩, ⟨some 32, .mv (.t 4), none⟩, ⟨some 33, .iaddr 10 (.t 31) (.t 32), none⟩, ⟨some 34, .faddr 0 (.t 33), none⟩, ⟨some 35, .load none (.t 34), none⟩, ⟨some 36, .bin .eql (.t 35) (.c (.int .i64 7)), none⟩])
     (.cond (.t 36) (.ops false [⟨some 5, .mv (.c (.int .i64 4)), none⟩])
      (.skip)))
     (.ops true [⟨some 37, .faddr 4 (.t 3), none⟩, ⟨some 38, .load none (.t 37), none⟩, ⟨some 39, .mv (.t 5), none⟩, ⟨some 40, .faddr 4 (.t 1), none⟩, ⟨some 41, .load none (.t 40), none⟩, ⟨some 42, .mv (.t 4), none⟩, ⟨some 43, .iaddr 10 (.t 41) (.t 42), none⟩, ⟨some 44, .load (some 10) (.t 43), none⟩, ⟨some 45, .build [.int .i64 0, .int .i64 0, .nil, .int .i64 0, .nil, .nil, .int .i64 0, .bool false, .str [], .int .i64 0, .nil] [(0, 1, (.t 39)), (1, 10, (.t 44))], none⟩, ⟨some 46, .bslice true [.int .i64 0, .int .i64 0, .nil, .int .i64 0, .nil, .nil, .int .i64 0, .bool false, .str [], .int .i64 0, .nil] [(some (.t 45))], none⟩, ⟨some 47, .append 11 (.t 38) (.t 46), none⟩, ⟨some 48, .faddr 4 (.t 3), none⟩, ⟨none, .store 1 (.t 48) (.t 47), none⟩])))))
    (.ops false [⟨some 21, .mv (.t 4), none⟩, ⟨some 22, .bin .add (.t 21) (.c (.int .i64 1)), none⟩, ⟨some 4, .mv (.t 22), none⟩]))))))
  (.seq (.seq (.ops false [⟨some 6, .mv (.c (.int .i64 0)), none⟩])
  (.block 2 (.loop [1, 2, 3, 6] (some 4) (.seq (.seq (.ops false [⟨some 49, .mv (.t 6), none⟩, ⟨some 50, .faddr 4 (.t 1), none⟩, ⟨some 51, .load none (.t 50), none⟩, ⟨some 52, .len (.t 51), none⟩, ⟨some 53, .bin .lss (.t 49) (.t 52), none⟩])
    (.cond (.t 53) (.skip)
     (.exit 2)))
    (.seq (.block 3 (.seq (.ops false [⟨some 56, .faddr 4 (.t 1), none⟩, ⟨some 57, .load none (.t 56), none⟩, ⟨some 58, .mv (.t 6), none⟩, ⟨some 59, .iaddr 10 (.t 57) (.t 58), none⟩, ⟨some 60, .faddr 0 (.t 59), none⟩, ⟨some 61, .load none (.t 60), none⟩, ⟨some 62, .bin .eql (.t 61) (.c (.int .i64 5)), none⟩])
     (.cond (.t 62) (.ops true [⟨some 63, .faddr 4 (.t 3), none⟩, ⟨some 64, .load none (.t 63), none⟩, ⟨some 65, .faddr 4 (.t 1), none⟩, ⟨some 66, .load none (.t 65), none⟩, ⟨some 67, .mv (.t 6), none⟩, ⟨some 68, .iaddr 10 (.t 66) (.t 67), none⟩, ⟨some 69, .load (some 10) (.t 68), none⟩, ⟨some 70, .build [.int .i64 0, .int .i64 0, .nil, .int .i64 0, .nil, .nil, .int .i64 0, .bool false, .str [], .int .i64 0, .nil] [(0, 1, (.c (.int .i64 3))), (1, 10, (.t 69))], none⟩, ⟨some 71, .bslice true [.int .i64 0, .int .i64 0, .nil, .int .i64 0, .nil, .nil, .int .i64 0, .bool false, .str [], .int .i64 0, .nil] [(some (.t 70))], none⟩, ⟨some 72, .append 11 (.t 64) (.t 71), none⟩, ⟨some 73, .faddr 4 (.t 3), none⟩, ⟨none, .store 1 (.t 73) (.t 72), none⟩])
      (.skip))))
    (.ops false [⟨some 54, .mv (.t 6), none⟩, ⟨some 55, .bin .add (.t 54) (.c (.int .i64 1)), none⟩, ⟨some 6, .mv (.t 55), none⟩]))))))
  (.seq (.ops false [⟨some 74, .load (some 5) (.t 3), none⟩, ⟨none, .store 5 (.t 2) (.t 74), none⟩])
  (.ret)))))),
  [.cell 2 (some 5)]⟩

/- noria/noriaref25.Blocks -/
def d_noriaref25_Blocks : DFun := ⟨
  .seq (.ops false [⟨some 1, .box (.t 0), none⟩, ⟨some 2, .mv (.c (.nil)), none⟩])
  (.seq (.ops false [⟨some 8, .bslice false [.nil, .nil] [], none⟩, ⟨some 3, .mv (.t 8), none⟩])
  (.seq (.seq (.ops false [⟨some 4, .mv (.c (.int .i64 0)), none⟩])
  (.block 0 (.loop [1, 3, 4] none (.seq (.seq (.ops false [⟨some 9, .mv (.t 4), none⟩, ⟨some 10, .faddr 4 (.t 1), none⟩, ⟨some 11, .load none (.t 10), none⟩, ⟨some 12, .len (.t 11), none⟩, ⟨some 13, .bin .lss (.t 9) (.t 12), none⟩])
    (.cond (.t 13) (.skip)
     (.exit 0)))
    (.seq (.block 1 (.seq (.ops false [⟨some 16, .faddr 4 (.t 1), none⟩, ⟨some 17, .load none (.t 16), none⟩, ⟨some 18, .mv (.t 4), none⟩, ⟨some 19, .iaddr 11 (.t 17) (.t 18), none⟩, ⟨some 20, .load (some 11) (.t 19), none⟩, ⟨some 5, .alloc [.int .i64 0, .int .i64 0, .nil, .int .i64 0, .nil, .nil, .int .i64 0, .bool false, .str [], .int .i64 0, .nil], none⟩, ⟨none, .store 11 (.t 5) (.t 20), none⟩])
     (.seq (.ops false [⟨some 21, .faddr 1 (.t 5), none⟩, ⟨some 22, .faddr 9 (.t 21), none⟩, ⟨some 23, .load none (.t 22), none⟩, ⟨some 6, .mv (.t 23), none⟩])
     (.seq (.ops false [⟨some 24, .faddr 1 (.t 5), none⟩, ⟨some 25, .faddr 9 (.t 24), none⟩, ⟨none, .store 1 (.t 25) (.c (.nil)), none⟩])
     (.seq (.ops false [⟨some 26, .mv (.t 3), none⟩, ⟨some 27, .len (.t 26), none⟩, ⟨some 7, .mv (.t 27), none⟩])
     (.seq (.seq (.ops false [⟨some 28, .mv (.t 7), none⟩, ⟨some 29, .bin .gtr (.t 28) (.c (.int .i64 0)), none⟩, ⟨some 30, .mv (.t 29), none⟩, ⟨some 31, .mv (.t 3), some (30, true)⟩, ⟨some 32, .mv (.t 7), some (30, true)⟩, ⟨some 33, .bin .sub (.t 32) (.c (.int .i64 1)), some (30, true)⟩, ⟨some 34, .iaddr 2 (.t 31) (.t 33), some (30, true)⟩, ⟨some 35, .faddr 0 (.t 34), some (30, true)⟩, ⟨some 36, .load none (.t 35), some (30, true)⟩, ⟨some 37, .mv (.t 6), some (30, true)⟩, ⟨some 38, .callP 21 [(.t 36), (.t 37)], some (30, true)⟩, ⟨some 39, .pick (.t 30) (.t 38) (.c (.bool false)), none⟩])
     (.cond (.t 39) (.seq (.ops true [⟨some 40, .mv (.t 3), none⟩, ⟨some 41, .mv (.t 7), none⟩, ⟨some 42, .bin .sub (.t 41) (.c (.int .i64 1)), none⟩, ⟨some 43, .mv (.t 3), none⟩, ⟨some 44, .mv (.t 7), none⟩, ⟨some 45, .bin .sub (.t 44) (.c (.int .i64 1)), none⟩, ⟨some 46, .iaddr 2 (.t 43) (.t 45), none⟩, ⟨some 47, .faddr 1 (.t 46), none⟩, ⟨some 48, .load none (.t 47), none⟩, ⟨some 49, .load (some 11) (.t 5), none⟩, ⟨some 50, .bslice true [.int .i64 0, .int .i64 0, .nil, .int .i64 0, .nil, .nil, .int .i64 0, .bool false, .str [], .int .i64 0, .nil] [(some (.t 49))], none⟩, ⟨some 51, .append 11 (.t 48) (.t 50), none⟩, ⟨some 52, .iaddr 2 (.t 40) (.t 42), none⟩, ⟨some 53, .faddr 1 (.t 52), none⟩, ⟨none, .store 1 (.t 53) (.t 51), none⟩])
      (.exit 1))
      (.skip)))
     (.ops false [⟨some 54, .mv (.t 3), none⟩, ⟨some 55, .mv (.t 6), none⟩, ⟨some 56, .load (some 11) (.t 5), none⟩, ⟨some 57, .bslice false [.int .i64 0, .int .i64 0, .nil, .int .i64 0, .nil, .nil, .int .i64 0, .bool false, .str [], .int .i64 0, .nil] [(some (.t 56))], none⟩, ⟨some 58, .build [.nil, .nil] [(0, 1, (.t 55)), (1, 1, (.t 57))], none⟩, ⟨some 59, .bown [.nil, .nil] [(some (.t 58))], none⟩, ⟨some 60, .appl 2 (.t 54) (.t 59), none⟩, ⟨some 3, .mv (.t 60), none⟩])))))))
    (.ops false [⟨some 14, .mv (.t 4), none⟩, ⟨some 15, .bin .add (.t 14) (.c (.int .i64 1)), none⟩, ⟨some 4, .mv (.t 15), none⟩]))))))
  (.seq (.ops false [⟨some 61, .mvd (.t 3), none⟩, ⟨some 2, .mv (.t 61), none⟩])
  (.ret)))),
  [.t 2]⟩

/- noria/noriaref25.SameBlocks -/
def d_noriaref25_SameBlocks : DFun := ⟨
  .seq (.ops false [⟨some 4, .mv (.c (.bool false)), none⟩])
  (.seq (.seq (.ops false [⟨some 6, .mv (.t 0), none⟩, ⟨some 7, .len (.t 6), none⟩, ⟨some 8, .mv (.t 1), none⟩, ⟨some 9, .len (.t 8), none⟩, ⟨some 10, .bin .neq (.t 7) (.t 9), none⟩])
  (.cond (.t 10) (.seq (.ops false [⟨some 4, .mv (.c (.bool false)), none⟩])
   (.ret))
   (.skip)))
  (.seq (.seq (.ops false [⟨some 5, .mv (.c (.int .i64 0)), none⟩])
  (.block 0 (.loop [0, 1, 5] (some 0) (.seq (.seq (.ops false [⟨some 11, .mv (.t 5), none⟩, ⟨some 12, .mv (.t 0), none⟩, ⟨some 13, .len (.t 12), none⟩, ⟨some 14, .bin .lss (.t 11) (.t 13), none⟩])
    (.cond (.t 14) (.skip)
     (.exit 0)))
    (.seq (.block 1 (.seq (.ops true [⟨some 17, .mv (.t 0), none⟩, ⟨some 18, .mv (.t 5), none⟩, ⟨some 19, .iaddr 2 (.t 17) (.t 18), none⟩, ⟨some 20, .faddr 0 (.t 19), none⟩, ⟨some 21, .load none (.t 20), none⟩, ⟨some 22, .mv (.t 1), none⟩, ⟨some 23, .mv (.t 5), none⟩, ⟨some 24, .iaddr 2 (.t 22) (.t 23), none⟩, ⟨some 25, .faddr 0 (.t 24), none⟩, ⟨some 26, .load none (.t 25), none⟩, ⟨some 27, .callP 21 [(.t 21), (.t 26)], none⟩, ⟨some 28, .un .not (.t 27), none⟩, ⟨some 29, .mv (.t 28), none⟩, ⟨some 30, .mv (.t 0), some (29, false)⟩, ⟨some 31, .mv (.t 5), some (29, false)⟩, ⟨some 32, .iaddr 2 (.t 30) (.t 31), some (29, false)⟩, ⟨some 33, .faddr 1 (.t 32), some (29, false)⟩, ⟨some 34, .load none (.t 33), some (29, false)⟩, ⟨some 35, .mv (.t 1), some (29, false)⟩, ⟨some 36, .mv (.t 5), some (29, false)⟩, ⟨some 37, .iaddr 2 (.t 35) (.t 36), some (29, false)⟩, ⟨some 38, .faddr 1 (.t 37), some (29, false)⟩, ⟨some 39, .load none (.t 38), some (29, false)⟩, ⟨some 40, .callP 15 [(.t 34), (.t 39)], some (29, false)⟩, ⟨some 41, .un .not (.t 40), some (29, false)⟩, ⟨some 42, .pick (.t 29) (.c (.bool true)) (.t 41), none⟩])
     (.cond (.t 42) (.seq (.ops false [⟨some 4, .mv (.c (.bool false)), none⟩])
      (.ret))
      (.skip))))
    (.ops false [⟨some 15, .mv (.t 5), none⟩, ⟨some 16, .bin .add (.t 15) (.c (.int .i64 1)), none⟩, ⟨some 5, .mv (.t 16), none⟩]))))))
  (.seq (.ops false [⟨some 4, .mv (.c (.bool true)), none⟩])
  (.ret)))),
  [.t 4]⟩

/- noria/obc.Blocks -/
def d_obc_Blocks : DFun := ⟨
  .seq (.ops false [⟨some 1, .box (.t 0), none⟩, ⟨some 2, .mv (.c (.nil)), none⟩])
  (.seq (.ops false [⟨some 3, .mkown 2 (.c (.nil)), none⟩])
  (.seq (.seq (.ops false [⟨some 6, .faddr 4 (.t 1), none⟩, ⟨some 7, .load none (.t 6), none⟩, ⟨some 8, .callP 22 [(.t 7), (.c (.clo 23 []))], none⟩, ⟨some 9, .len (.t 8), none⟩, ⟨some 10, .mv (.c (.int .i64 0)), none⟩])
  (.block 0 (.loop [3, 8, 9, 10] (some 2) (.seq (.ops false [⟨some 11, .bin .lss (.t 10) (.t 9), none⟩])
    (.seq (.cond (.t 11) (.skip)
     (.exit 0))
    (.seq (.block 1 (.seq (.ops false [⟨some 12, .iaddr 1 (.t 8) (.t 10), none⟩, ⟨some 13, .load none (.t 12), none⟩, ⟨some 5, .mv (.t 13), none⟩])
     (.ops true [⟨some 14, .mv (.t 3), none⟩, ⟨some 15, .mv (.t 5), none⟩, ⟨some 16, .iaddr 11 (.t 15) (.c (.int .i64 0)), none⟩, ⟨some 17, .faddr 1 (.t 16), none⟩, ⟨some 18, .faddr 9 (.t 17), none⟩, ⟨some 19, .load none (.t 18), none⟩, ⟨some 20, .mv (.t 5), none⟩, ⟨some 21, .callP 24 [(.t 20), (.c (.nil))], none⟩, ⟨some 22, .build [.nil, .nil] [(0, 1, (.t 19)), (1, 1, (.t 21))], none⟩, ⟨some 23, .bslice true [.nil, .nil] [(some (.t 22))], none⟩, ⟨some 24, .append 2 (.t 14) (.t 23), none⟩, ⟨some 3, .mv (.t 24), none⟩])))
    (.ops false [⟨some 25, .bin .add (.t 10) (.c (.int .i64 1)), none⟩, ⟨some 10, .mv (.t 25), none⟩])))))))
  (.seq (.ops false [⟨some 26, .mv (.t 3), none⟩, ⟨some 2, .mv (.t 26), none⟩])
  (.ret)))),
  [.t 2]⟩

/- noria/noriaref25.Stmts -/
def d_noriaref25_Stmts : DFun := ⟨
  .seq (.ops false [⟨some 4, .mv (.c (.bool false)), none⟩])
  (.seq (.seq (.ops false [⟨some 6, .mv (.t 0), none⟩, ⟨some 7, .len (.t 6), none⟩, ⟨some 8, .mv (.t 1), none⟩, ⟨some 9, .len (.t 8), none⟩, ⟨some 10, .bin .neq (.t 7) (.t 9), none⟩])
  (.cond (.t 10) (.seq (.ops false [⟨some 4, .mv (.c (.bool false)), none⟩])
   (.ret))
   (.skip)))
  (.seq (.seq (.ops false [⟨some 5, .mv (.c (.int .i64 0)), none⟩])
  (.block 0 (.loop [0, 1, 5] (some 0) (.seq (.seq (.ops false [⟨some 11, .mv (.t 5), none⟩, ⟨some 12, .mv (.t 0), none⟩, ⟨some 13, .len (.t 12), none⟩, ⟨some 14, .bin .lss (.t 11) (.t 13), none⟩])
    (.cond (.t 14) (.skip)
     (.exit 0)))
    (.seq (.block 1 (.seq (.ops true [⟨some 17, .mv (.t 0), none⟩, ⟨some 18, .mv (.t 5), none⟩, ⟨some 19, .iaddr 11 (.t 17) (.t 18), none⟩, ⟨some 20, .faddr 0 (.t 19), none⟩, ⟨some 21, .load none (.t 20), none⟩, ⟨some 22, .mv (.t 1), none⟩, ⟨some 23, .mv (.t 5), none⟩, ⟨some 24, .iaddr 11 (.t 22) (.t 23), none⟩, ⟨some 25, .faddr 0 (.t 24), none⟩, ⟨some 26, .load none (.t 25), none⟩, ⟨some 27, .bin .neq (.t 21) (.t 26), none⟩, ⟨some 28, .mv (.t 27), none⟩, ⟨some 29, .mv (.t 0), some (28, false)⟩, ⟨some 30, .mv (.t 5), some (28, false)⟩, ⟨some 31, .iaddr 11 (.t 29) (.t 30), some (28, false)⟩, ⟨some 32, .faddr 1 (.t 31), some (28, false)⟩, ⟨some 33, .load (some 10) (.t 32), some (28, false)⟩, ⟨some 34, .mv (.t 1), some (28, false)⟩, ⟨some 35, .mv (.t 5), some (28, false)⟩, ⟨some 36, .iaddr 11 (.t 34) (.t 35), some (28, false)⟩, ⟨some 37, .faddr 1 (.t 36), some (28, false)⟩, ⟨some 38, .load (some 10) (.t 37), some (28, false)⟩, ⟨some 39, .callP 25 [(.t 33), (.t 38)], some (28, false)⟩, ⟨some 40, .un .not (.t 39), some (28, false)⟩, ⟨some 41, .pick (.t 28) (.c (.bool true)) (.t 40), none⟩])
     (.cond (.t 41) (.seq (.ops false [⟨some 4, .mv (.c (.bool false)), none⟩])
      (.ret))
      (.skip))))
    (.ops false [⟨some 15, .mv (.t 5), none⟩, ⟨some 16, .bin .add (.t 15) (.c (.int .i64 1)), none⟩, ⟨some 5, .mv (.t 16), none⟩]))))))
  (.seq (.ops false [⟨some 4, .mv (.c (.bool true)), none⟩])
  (.ret)))),
  [.t 4]⟩

/- noria/obc.Flat -/
def d_obc_Flat : DFun := ⟨
  .seq (.ops false [⟨some 2, .mv (.c (.nil)), none⟩])
  (.seq (.ops false [⟨some 3, .mkown 11 (.c (.nil)), none⟩])
  (.seq (.seq (.ops false [⟨some 6, .mv (.t 0), none⟩, ⟨some 7, .len (.t 6), none⟩, ⟨some 8, .mv (.c (.int .i64 0)), none⟩])
  (.block 0 (.loop [3, 6, 7, 8] (some 1) (.seq (.ops false [⟨some 9, .bin .lss (.t 8) (.t 7), none⟩])
    (.seq (.cond (.t 9) (.skip)
     (.exit 0))
    (.seq (.block 1 (.seq (.ops false [⟨some 10, .iaddr 2 (.t 6) (.t 8), none⟩, ⟨some 11, .load (some 2) (.t 10), none⟩, ⟨some 5, .alloc [.nil, .nil], none⟩, ⟨none, .store 2 (.t 5) (.t 11), none⟩])
     (.ops false [⟨some 12, .mv (.t 3), none⟩, ⟨some 13, .faddr 1 (.t 5), none⟩, ⟨some 14, .load none (.t 13), none⟩, ⟨some 15, .faddr 0 (.t 5), none⟩, ⟨some 16, .load none (.t 15), none⟩, ⟨some 17, .callP 24 [(.t 14), (.t 16)], none⟩, ⟨some 18, .append 11 (.t 12) (.t 17), none⟩, ⟨some 3, .mv (.t 18), none⟩])))
    (.ops false [⟨some 19, .bin .add (.t 8) (.c (.int .i64 1)), none⟩, ⟨some 8, .mv (.t 19), none⟩])))))))
  (.seq (.ops false [⟨some 20, .mv (.t 3), none⟩, ⟨some 2, .mv (.t 20), none⟩])
  (.ret)))),
  [.t 2]⟩

/- noria/noriaref25.Flat -/
def d_noriaref25_Flat : DFun := ⟨
  .seq (.ops false [⟨some 2, .mv (.c (.nil)), none⟩])
  (.seq (.ops false [⟨some 7, .bslice false [.int .i64 0, .int .i64 0, .nil, .int .i64 0, .nil, .nil, .int .i64 0, .bool false, .str [], .int .i64 0, .nil] [], none⟩, ⟨some 3, .mv (.t 7), none⟩])
  (.seq (.seq (.ops false [⟨some 4, .mv (.c (.int .i64 0)), none⟩])
  (.block 0 (.loop [0, 3, 4] (some 1) (.seq (.seq (.ops false [⟨some 8, .mv (.t 4), none⟩, ⟨some 9, .mv (.t 0), none⟩, ⟨some 10, .len (.t 9), none⟩, ⟨some 11, .bin .lss (.t 8) (.t 10), none⟩])
    (.cond (.t 11) (.skip)
     (.exit 0)))
    (.seq (.block 1 (.seq (.ops false [⟨some 5, .mv (.c (.int .i64 0)), none⟩])
     (.block 2 (.loop [0, 3, 4, 5] (some 1) (.seq (.seq (.ops false [⟨some 14, .mv (.t 5), none⟩, ⟨some 15, .mv (.t 0), none⟩, ⟨some 16, .mv (.t 4), none⟩, ⟨some 17, .iaddr 2 (.t 15) (.t 16), none⟩, ⟨some 18, .faddr 1 (.t 17), none⟩, ⟨some 19, .load none (.t 18), none⟩, ⟨some 20, .len (.t 19), none⟩, ⟨some 21, .bin .lss (.t 14) (.t 20), none⟩])
       (.cond (.t 21) (.skip)
        (.exit 2)))
       (.seq (.block 3 (.seq (.ops false [⟨some 24, .mv (.t 0), none⟩, ⟨some 25, .mv (.t 4), none⟩, ⟨some 26, .iaddr 2 (.t 24) (.t 25), none⟩, ⟨some 27, .faddr 1 (.t 26), none⟩, ⟨some 28, .load none (.t 27), none⟩, ⟨some 29, .mv (.t 5), none⟩, ⟨some 30, .iaddr 11 (.t 28) (.t 29), none⟩, ⟨some 31, .load (some 11) (.t 30), none⟩, ⟨some 6, .alloc [.int .i64 0, .int .i64 0, .nil, .int .i64 0, .nil, .nil, .int .i64 0, .bool false, .str [], .int .i64 0, .nil], none⟩, ⟨none, .store 11 (.t 6) (.t 31), none⟩])
        (.seq (.ops false [⟨some 32, .mv (.t 0), none⟩, ⟨some 33, .mv (.t 4), none⟩, ⟨some 34, .iaddr 2 (.t 32) (.t 33), none⟩, ⟨some 35, .faddr 0 (.t 34), none⟩, ⟨some 36, .load none (.t 35), none⟩, ⟨some 37, .faddr 1 (.t 6), none⟩, ⟨some 38, .faddr 9 (.t 37), none⟩, ⟨none, .store 1 (.t 38) (.t 36), none⟩])
        (.ops false [⟨some 39, .mv (.t 3), none⟩, ⟨some 40, .load (some 11) (.t 6), none⟩, ⟨some 41, .bslice true [.int .i64 0, .int .i64 0, .nil, .int .i64 0, .nil, .nil, .int .i64 0, .bool false, .str [], .int .i64 0, .nil] [(some (.t 40))], none⟩, ⟨some 42, .append 11 (.t 39) (.t 41), none⟩, ⟨some 3, .mv (.t 42), none⟩]))))
       (.ops false [⟨some 22, .mv (.t 5), none⟩, ⟨some 23, .bin .add (.t 22) (.c (.int .i64 1)), none⟩, ⟨some 5, .mv (.t 23), none⟩])))))))
    (.ops false [⟨some 12, .mv (.t 4), none⟩, ⟨some 13, .bin .add (.t 12) (.c (.int .i64 1)), none⟩, ⟨some 4, .mv (.t 13), none⟩]))))))
  (.seq (.ops false [⟨some 43, .mv (.t 3), none⟩, ⟨some 2, .mv (.t 43), none⟩])
  (.ret)))),
  [.t 2]⟩

/- noria/noriaref22.few -/
def d_noriaref22_few : DFun := ⟨
  .seq (.ops false [⟨some 1, .bref (.t 0), none⟩, ⟨some 2, .mv (.c (.bool false)), none⟩])
  (.seq (.seq (.ops false [⟨some 3, .mv (.c (.int .i64 0)), none⟩])
  (.block 0 (.loop [1, 3] (some 0) (.seq (.seq (.ops false [⟨some 4, .mv (.t 3), none⟩, ⟨some 5, .faddr 4 (.t 1), none⟩, ⟨some 6, .load none (.t 5), none⟩, ⟨some 7, .len (.t 6), none⟩, ⟨some 8, .bin .lss (.t 4) (.t 7), none⟩])
    (.cond (.t 8) (.skip)
     (.exit 0)))
    (.seq (.block 1 (.seq (.ops false [⟨some 11, .faddr 4 (.t 1), none⟩, ⟨some 12, .load none (.t 11), none⟩, ⟨some 13, .mv (.t 3), none⟩, ⟨some 14, .iaddr 10 (.t 12) (.t 13), none⟩, ⟨some 15, .faddr 1 (.t 14), none⟩, ⟨some 16, .load none (.t 15), none⟩, ⟨some 17, .len (.t 16), none⟩, ⟨some 18, .bin .gtr (.t 17) (.c (.int .i64 10)), none⟩, ⟨some 19, .mv (.t 18), none⟩, ⟨some 20, .faddr 4 (.t 1), some (19, false)⟩, ⟨some 21, .load none (.t 20), some (19, false)⟩, ⟨some 22, .mv (.t 3), some (19, false)⟩, ⟨some 23, .iaddr 10 (.t 21) (.t 22), some (19, false)⟩, ⟨some 24, .faddr 3 (.t 23), some (19, false)⟩, ⟨some 25, .load none (.t 24), some (19, false)⟩, ⟨some 26, .len (.t 25), some (19, false)⟩, ⟨some 27, .bin .gtr (.t 26) (.c (.int .i64 10)), some (19, false)⟩, ⟨some 28, .pick (.t 19) (.c (.bool true)) (.t 27), none⟩, ⟨some 29, .mv (.t 28), none⟩, ⟨some 30, .faddr 4 (.t 1), some (29, false)⟩, ⟨some 31, .load none (.t 30), some (29, false)⟩, ⟨some 32, .mv (.t 3), some (29, false)⟩, ⟨some 33, .iaddr 10 (.t 31) (.t 32), some (29, false)⟩, ⟨some 34, .faddr 9 (.t 33), some (29, false)⟩, ⟨some 35, .load none (.t 34), some (29, false)⟩, ⟨some 36, .len (.t 35), some (29, false)⟩, ⟨some 37, .bin .gtr (.t 36) (.c (.int .i64 10)), some (29, false)⟩, ⟨some 38, .pick (.t 29) (.c (.bool true)) (.t 37), none⟩])
     (.cond (.t 38) (.seq (.ops false [⟨some 2, .mv (.c (.bool false)), none⟩])
      (.ret))
      (.skip))))
    (.ops false [⟨some 9, .mv (.t 3), none⟩, ⟨some 10, .bin .add (.t 9) (.c (.int .i64 1)), none⟩, ⟨some 3, .mv (.t 10), none⟩]))))))
  (.seq (.ops false [⟨some 39, .faddr 4 (.t 1), none⟩, ⟨some 40, .load none (.t 39), none⟩, ⟨some 41, .len (.t 40), none⟩, ⟨some 42, .bin .leq (.t 41) (.c (.int .i64 60)), none⟩, ⟨some 2, .mv (.t 42), none⟩])
  (.ret))),
  [.t 2]⟩

/- noria/noriaref21.SameFlow -/
def d_noriaref21_SameFlow : DFun := ⟨
  .seq (.ops false [⟨some 2, .box (.t 0), none⟩, ⟨some 3, .box (.t 1), none⟩, ⟨some 4, .mv (.c (.bool false)), none⟩])
  (.seq (.seq (.ops false [⟨some 6, .faddr 0 (.t 2), none⟩, ⟨some 7, .load none (.t 6), none⟩, ⟨some 8, .faddr 0 (.t 3), none⟩, ⟨some 9, .load none (.t 8), none⟩, ⟨some 10, .bin .neq (.t 7) (.t 9), none⟩, ⟨some 11, .mv (.t 10), none⟩, ⟨some 12, .faddr 1 (.t 2), some (11, false)⟩, ⟨some 13, .load none (.t 12), some (11, false)⟩, ⟨some 14, .faddr 1 (.t 3), some (11, false)⟩, ⟨some 15, .load none (.t 14), some (11, false)⟩, ⟨some 16, .callP 26 [(.t 13), (.t 15)], some (11, false)⟩, ⟨some 17, .un .not (.t 16), some (11, false)⟩, ⟨some 18, .pick (.t 11) (.c (.bool true)) (.t 17), none⟩, ⟨some 19, .mv (.t 18), none⟩, ⟨some 20, .faddr 2 (.t 2), some (19, false)⟩, ⟨some 21, .load none (.t 20), some (19, false)⟩, ⟨some 22, .faddr 2 (.t 3), some (19, false)⟩, ⟨some 23, .load none (.t 22), some (19, false)⟩, ⟨some 24, .callP 26 [(.t 21), (.t 23)], some (19, false)⟩, ⟨some 25, .un .not (.t 24), some (19, false)⟩, ⟨some 26, .pick (.t 19) (.c (.bool true)) (.t 25), none⟩, ⟨some 27, .mv (.t 26), none⟩, ⟨some 28, .faddr 3 (.t 2), some (27, false)⟩, ⟨some 29, .load none (.t 28), some (27, false)⟩, ⟨some 30, .faddr 3 (.t 3), some (27, false)⟩, ⟨some 31, .load none (.t 30), some (27, false)⟩, ⟨some 32, .callP 26 [(.t 29), (.t 31)], some (27, false)⟩, ⟨some 33, .un .not (.t 32), some (27, false)⟩, ⟨some 34, .pick (.t 27) (.c (.bool true)) (.t 33), none⟩, ⟨some 35, .mv (.t 34), none⟩, ⟨some 36, .faddr 4 (.t 2), some (35, false)⟩, ⟨some 37, .load none (.t 36), some (35, false)⟩, ⟨some 38, .len (.t 37), some (35, false)⟩, ⟨some 39, .faddr 4 (.t 3), some (35, false)⟩, ⟨some 40, .load none (.t 39), some (35, false)⟩, ⟨some 41, .len (.t 40), some (35, false)⟩, ⟨some 42, .bin .neq (.t 38) (.t 41), some (35, false)⟩, ⟨some 43, .pick (.t 35) (.c (.bool true)) (.t 42), none⟩])
  (.cond (.t 43) (.seq (.ops false [⟨some 4, .mv (.c (.bool false)), none⟩])
   (.ret))
   (.skip)))
  (.seq (.seq (.ops false [⟨some 5, .mv (.c (.int .i64 0)), none⟩])
  (.block 0 (.loop [2, 3, 5] (some 2) (.seq (.seq (.ops false [⟨some 44, .mv (.t 5), none⟩, ⟨some 45, .faddr 4 (.t 2), none⟩, ⟨some 46, .load none (.t 45), none⟩, ⟨some 47, .len (.t 46), none⟩, ⟨some 48, .bin .lss (.t 44) (.t 47), none⟩])
    (.cond (.t 48) (.skip)
     (.exit 0)))
    (.seq (.block 1 (.seq (.ops true [⟨some 51, .faddr 4 (.t 2), none⟩, ⟨some 52, .load none (.t 51), none⟩, ⟨some 53, .mv (.t 5), none⟩, ⟨some 54, .iaddr 10 (.t 52) (.t 53), none⟩, ⟨some 55, .load (some 10) (.t 54), none⟩, ⟨some 56, .faddr 4 (.t 3), none⟩, ⟨some 57, .load none (.t 56), none⟩, ⟨some 58, .mv (.t 5), none⟩, ⟨some 59, .iaddr 10 (.t 57) (.t 58), none⟩, ⟨some 60, .load (some 10) (.t 59), none⟩, ⟨some 61, .callP 25 [(.t 55), (.t 60)], none⟩, ⟨some 62, .un .not (.t 61), none⟩])
     (.cond (.t 62) (.seq (.ops false [⟨some 4, .mv (.c (.bool false)), none⟩])
      (.ret))
      (.skip))))
    (.ops false [⟨some 49, .mv (.t 5), none⟩, ⟨some 50, .bin .add (.t 49) (.c (.int .i64 1)), none⟩, ⟨some 5, .mv (.t 50), none⟩]))))))
  (.seq (.ops false [⟨some 4, .mv (.c (.bool true)), none⟩])
  (.ret)))),
  [.t 4]⟩

/- noria/obc.kind -/
def d_obc_kind : DFun := ⟨
  .seq (.ops false [⟨some 1, .box (.t 0), none⟩, ⟨some 2, .mv (.c (.int .i64 0)), none⟩])
  (.seq (.seq (.ops false [⟨some 3, .faddr 0 (.t 1), none⟩, ⟨some 4, .load none (.t 3), none⟩])
  (.block 0 (.seq (.ops false [⟨some 6, .bin .eql (.t 4) (.c (.int .i64 5)), none⟩, ⟨some 5, .mv (.t 6), none⟩])
   (.cond (.t 5) (.seq (.ops false [⟨some 2, .mv (.c (.int .i64 2)), none⟩])
    (.ret))
    (.seq (.ops false [⟨some 8, .bin .eql (.t 4) (.c (.int .i64 7)), none⟩, ⟨some 7, .mv (.t 8), none⟩])
    (.cond (.t 7) (.seq (.ops false [⟨some 2, .mv (.c (.int .i64 4)), none⟩])
     (.ret))
     (.skip)))))))
  (.seq (.ops false [⟨some 2, .mv (.c (.int .i64 1)), none⟩])
  (.ret))),
  [.t 2]⟩

/- noria/noriaref17.Same -/
def d_noriaref17_Same : DFun := ⟨
  .seq (.ops false [⟨some 4, .mv (.c (.bool false)), none⟩])
  (.seq (.seq (.ops false [⟨some 6, .mv (.t 0), none⟩, ⟨some 7, .len (.t 6), none⟩, ⟨some 8, .mv (.t 1), none⟩, ⟨some 9, .len (.t 8), none⟩, ⟨some 10, .bin .neq (.t 7) (.t 9), none⟩])
  (.cond (.t 10) (.seq (.ops false [⟨some 4, .mv (.c (.bool false)), none⟩])
   (.ret))
   (.skip)))
  (.seq (.seq (.ops false [⟨some 5, .mv (.c (.int .i64 0)), none⟩])
  (.block 0 (.loop [0, 1, 5] (some 0) (.seq (.seq (.ops false [⟨some 11, .mv (.t 5), none⟩, ⟨some 12, .mv (.t 0), none⟩, ⟨some 13, .len (.t 12), none⟩, ⟨some 14, .bin .lss (.t 11) (.t 13), none⟩])
    (.cond (.t 14) (.skip)
     (.exit 0)))
    (.seq (.block 1 (.seq (.ops true [⟨some 17, .mv (.t 0), none⟩, ⟨some 18, .mv (.t 5), none⟩, ⟨some 19, .iaddr 2 (.t 17) (.t 18), none⟩, ⟨some 20, .load (some 2) (.t 19), none⟩, ⟨some 21, .mv (.t 1), none⟩, ⟨some 22, .mv (.t 5), none⟩, ⟨some 23, .iaddr 2 (.t 21) (.t 22), none⟩, ⟨some 24, .load (some 2) (.t 23), none⟩, ⟨some 25, .aeq true [2, 0] (.t 20) (.t 24), none⟩])
     (.cond (.t 25) (.seq (.ops false [⟨some 4, .mv (.c (.bool false)), none⟩])
      (.ret))
      (.skip))))
    (.ops false [⟨some 15, .mv (.t 5), none⟩, ⟨some 16, .bin .add (.t 15) (.c (.int .i64 1)), none⟩, ⟨some 5, .mv (.t 16), none⟩]))))))
  (.seq (.ops false [⟨some 4, .mv (.c (.bool true)), none⟩])
  (.ret)))),
  [.t 4]⟩

/- noria/obc.groups[noria/api.Stmt] -/
def d_obc_groups_api_Stmt : DFun := ⟨
  .seq (.ops false [⟨some 4, .mv (.c (.nil)), none⟩])
  (.seq (.ops false [⟨some 5, .mkown 1 (.c (.nil)), none⟩])
  (.seq (.ops false [⟨some 6, .mv (.c (.int .i64 0)), none⟩])
  (.seq (.seq (.ops false [⟨some 8, .mv (.t 0), none⟩, ⟨some 9, .len (.t 8), none⟩, ⟨some 10, .mv (.c (.int .i64 0)), none⟩])
  (.block 0 (.loop [0, 1, 5, 6, 9, 10] (some 1) (.seq (.ops false [⟨some 11, .bin .lss (.t 10) (.t 9), none⟩])
    (.seq (.cond (.t 11) (.skip)
     (.exit 0))
    (.seq (.block 1 (.seq (.ops false [⟨some 12, .mv (.t 10), none⟩, ⟨some 7, .mv (.t 12), none⟩])
     (.seq (.ops true [⟨some 13, .mv (.t 7), none⟩, ⟨some 14, .bin .add (.t 13) (.c (.int .i64 1)), none⟩, ⟨some 15, .mv (.t 0), none⟩, ⟨some 16, .len (.t 15), none⟩, ⟨some 17, .bin .eql (.t 14) (.t 16), none⟩, ⟨some 18, .mv (.t 17), none⟩, ⟨some 19, .mv (.t 1), some (18, false)⟩, ⟨some 20, .mv (.t 0), some (18, false)⟩, ⟨some 21, .mv (.t 7), some (18, false)⟩, ⟨some 22, .iaddr 11 (.t 20) (.t 21), some (18, false)⟩, ⟨some 23, .load (some 11) (.t 22), some (18, false)⟩, ⟨some 24, .mv (.t 0), some (18, false)⟩, ⟨some 25, .mv (.t 7), some (18, false)⟩, ⟨some 26, .bin .add (.t 25) (.c (.int .i64 1)), some (18, false)⟩, ⟨some 27, .iaddr 11 (.t 24) (.t 26), some (18, false)⟩, ⟨some 28, .load (some 11) (.t 27), some (18, false)⟩, ⟨some 29, .callvP (.t 19) [(.t 23), (.t 28)], some (18, false)⟩, ⟨some 30, .un .not (.t 29), some (18, false)⟩, ⟨some 31, .pick (.t 18) (.c (.bool true)) (.t 30), none⟩])
     (.cond (.t 31) (.seq (.ops false [⟨some 32, .mv (.t 5), none⟩, ⟨some 33, .mv (.t 0), none⟩, ⟨some 34, .mv (.t 6), none⟩, ⟨some 35, .mv (.t 7), none⟩, ⟨some 36, .bin .add (.t 35) (.c (.int .i64 1)), none⟩, ⟨some 37, .mv (.t 7), none⟩, ⟨some 38, .bin .add (.t 37) (.c (.int .i64 1)), none⟩, ⟨some 39, .slice 11 (.t 33) (some (.t 34)) (some (.t 36)) (some (.t 38)), none⟩, ⟨some 40, .bslice true [.nil] [(some (.t 39))], none⟩, ⟨some 41, .append 1 (.t 32) (.t 40), none⟩, ⟨some 5, .mv (.t 41), none⟩])
      (.ops false [⟨some 42, .mv (.t 7), none⟩, ⟨some 43, .bin .add (.t 42) (.c (.int .i64 1)), none⟩, ⟨some 6, .mv (.t 43), none⟩]))
      (.skip)))))
    (.ops false [⟨some 44, .bin .add (.t 10) (.c (.int .i64 1)), none⟩, ⟨some 10, .mv (.t 44), none⟩])))))))
  (.seq (.ops false [⟨some 45, .mv (.t 5), none⟩, ⟨some 4, .mv (.t 45), none⟩])
  (.ret))))),
  [.t 4]⟩

/- noria/obc.together -/
def d_obc_together : DFun := ⟨
  .seq (.ops false [⟨some 2, .box (.t 0), none⟩, ⟨some 3, .box (.t 1), none⟩, ⟨some 4, .mv (.c (.bool false)), none⟩])
  (.seq (.ops false [⟨some 5, .faddr 1 (.t 2), none⟩, ⟨some 6, .faddr 9 (.t 5), none⟩, ⟨some 7, .load none (.t 6), none⟩, ⟨some 8, .faddr 1 (.t 3), none⟩, ⟨some 9, .faddr 9 (.t 8), none⟩, ⟨some 10, .load none (.t 9), none⟩, ⟨some 11, .callP 27 [(.t 7), (.t 10)], none⟩, ⟨some 4, .mv (.t 11), none⟩])
  (.ret)),
  [.t 4]⟩

/- noria/obc.bare -/
def d_obc_bare : DFun := ⟨
  .seq (.ops false [⟨some 4, .mv (.c (.nil)), none⟩])
  (.seq (.ops false [⟨some 7, .mv (.t 0), none⟩, ⟨some 8, .ei 28 [(.t 7)], none⟩, ⟨some 5, .mv (.t 8), none⟩])
  (.seq (.seq (.ops false [⟨some 9, .mv (.t 5), none⟩, ⟨some 10, .len (.t 9), none⟩, ⟨some 11, .mv (.c (.int .i64 0)), none⟩])
  (.block 0 (.loop [1, 5, 10, 11] (some 1) (.seq (.ops false [⟨some 12, .bin .lss (.t 11) (.t 10), none⟩])
    (.seq (.cond (.t 12) (.skip)
     (.exit 0))
    (.seq (.block 1 (.seq (.ops false [⟨some 13, .mv (.t 11), none⟩, ⟨some 6, .mv (.t 13), none⟩])
     (.ops false [⟨some 14, .mv (.t 5), none⟩, ⟨some 15, .mv (.t 6), none⟩, ⟨some 16, .mv (.t 1), none⟩, ⟨some 17, .iaddr 11 (.t 14) (.t 15), none⟩, ⟨some 18, .faddr 1 (.t 17), none⟩, ⟨some 19, .faddr 9 (.t 18), none⟩, ⟨none, .store 1 (.t 19) (.t 16), none⟩])))
    (.ops false [⟨some 20, .bin .add (.t 11) (.c (.int .i64 1)), none⟩, ⟨some 11, .mv (.t 20), none⟩])))))))
  (.seq (.ops false [⟨some 21, .mv (.t 5), none⟩, ⟨some 4, .mv (.t 21), none⟩])
  (.ret)))),
  [.t 4]⟩

/- noria/noriaref21.SamePlain -/
def d_noriaref21_SamePlain : DFun := ⟨
  .seq (.ops false [⟨some 2, .box (.t 0), none⟩, ⟨some 3, .box (.t 1), none⟩, ⟨some 4, .mv (.c (.bool false)), none⟩])
  (.seq (.ops false [⟨some 5, .faddr 0 (.t 2), none⟩, ⟨some 6, .load none (.t 5), none⟩, ⟨some 7, .faddr 0 (.t 3), none⟩, ⟨some 8, .load none (.t 7), none⟩, ⟨some 9, .bin .eql (.t 6) (.t 8), none⟩, ⟨some 10, .mv (.t 9), none⟩, ⟨some 11, .faddr 1 (.t 2), some (10, true)⟩, ⟨some 12, .load none (.t 11), some (10, true)⟩, ⟨some 13, .faddr 1 (.t 3), some (10, true)⟩, ⟨some 14, .load none (.t 13), some (10, true)⟩, ⟨some 15, .callP 29 [(.t 12), (.t 14)], some (10, true)⟩, ⟨some 16, .pick (.t 10) (.t 15) (.c (.bool false)), none⟩, ⟨some 17, .mv (.t 16), none⟩, ⟨some 18, .faddr 2 (.t 2), some (17, true)⟩, ⟨some 19, .load none (.t 18), some (17, true)⟩, ⟨some 20, .faddr 2 (.t 3), some (17, true)⟩, ⟨some 21, .load none (.t 20), some (17, true)⟩, ⟨some 22, .bin .eql (.t 19) (.t 21), some (17, true)⟩, ⟨some 23, .pick (.t 17) (.t 22) (.c (.bool false)), none⟩, ⟨some 24, .mv (.t 23), none⟩, ⟨some 25, .faddr 3 (.t 2), some (24, true)⟩, ⟨some 26, .load none (.t 25), some (24, true)⟩, ⟨some 27, .faddr 3 (.t 3), some (24, true)⟩, ⟨some 28, .load none (.t 27), some (24, true)⟩, ⟨some 29, .callP 30 [(.t 26), (.t 28)], some (24, true)⟩, ⟨some 30, .pick (.t 24) (.t 29) (.c (.bool false)), none⟩, ⟨some 31, .mv (.t 30), none⟩, ⟨some 32, .faddr 4 (.t 2), some (31, true)⟩, ⟨some 33, .load none (.t 32), some (31, true)⟩, ⟨some 34, .faddr 4 (.t 3), some (31, true)⟩, ⟨some 35, .load none (.t 34), some (31, true)⟩, ⟨some 36, .callP 31 [(.t 33), (.t 35)], some (31, true)⟩, ⟨some 37, .pick (.t 31) (.t 36) (.c (.bool false)), none⟩, ⟨some 38, .mv (.t 37), none⟩, ⟨some 39, .faddr 5 (.t 2), some (38, true)⟩, ⟨some 40, .load none (.t 39), some (38, true)⟩, ⟨some 41, .faddr 5 (.t 3), some (38, true)⟩, ⟨some 42, .load none (.t 41), some (38, true)⟩, ⟨some 43, .bin .eql (.t 40) (.t 42), some (38, true)⟩, ⟨some 44, .pick (.t 38) (.t 43) (.c (.bool false)), none⟩, ⟨some 45, .mv (.t 44), none⟩, ⟨some 46, .faddr 6 (.t 2), some (45, true)⟩, ⟨some 47, .load none (.t 46), some (45, true)⟩, ⟨some 48, .faddr 6 (.t 3), some (45, true)⟩, ⟨some 49, .load none (.t 48), some (45, true)⟩, ⟨some 50, .beq false (.t 47) (.t 49), some (45, true)⟩, ⟨some 51, .pick (.t 45) (.t 50) (.c (.bool false)), none⟩, ⟨some 52, .mv (.t 51), none⟩, ⟨some 53, .faddr 7 (.t 2), some (52, true)⟩, ⟨some 54, .load (some 2) (.t 53), some (52, true)⟩, ⟨some 55, .faddr 7 (.t 3), some (52, true)⟩, ⟨some 56, .load (some 2) (.t 55), some (52, true)⟩, ⟨some 57, .aeq false [2, 0] (.t 54) (.t 56), some (52, true)⟩, ⟨some 58, .pick (.t 52) (.t 57) (.c (.bool false)), none⟩, ⟨some 59, .mv (.t 58), none⟩, ⟨some 60, .faddr 9 (.t 2), some (59, true)⟩, ⟨some 61, .load none (.t 60), some (59, true)⟩, ⟨some 62, .faddr 9 (.t 3), some (59, true)⟩, ⟨some 63, .load none (.t 62), some (59, true)⟩, ⟨some 64, .callP 21 [(.t 61), (.t 63)], some (59, true)⟩, ⟨some 65, .pick (.t 59) (.t 64) (.c (.bool false)), none⟩, ⟨some 4, .mv (.t 65), none⟩])
  (.ret)),
  [.t 4]⟩

/- noria/noriaref21.sameVars -/
def d_noriaref21_sameVars : DFun := ⟨
  .seq (.ops false [⟨some 4, .mv (.c (.bool false)), none⟩])
  (.seq (.seq (.ops false [⟨some 6, .mv (.t 0), none⟩, ⟨some 7, .len (.t 6), none⟩, ⟨some 8, .mv (.t 1), none⟩, ⟨some 9, .len (.t 8), none⟩, ⟨some 10, .bin .neq (.t 7) (.t 9), none⟩])
  (.cond (.t 10) (.seq (.ops false [⟨some 4, .mv (.c (.bool false)), none⟩])
   (.ret))
   (.skip)))
  (.seq (.seq (.ops false [⟨some 5, .mv (.c (.int .i64 0)), none⟩])
  (.block 0 (.loop [0, 1, 5] (some 0) (.seq (.seq (.ops false [⟨some 11, .mv (.t 5), none⟩, ⟨some 12, .mv (.t 0), none⟩, ⟨some 13, .len (.t 12), none⟩, ⟨some 14, .bin .lss (.t 11) (.t 13), none⟩])
    (.cond (.t 14) (.skip)
     (.exit 0)))
    (.seq (.block 1 (.seq (.ops true [⟨some 17, .mv (.t 0), none⟩, ⟨some 18, .mv (.t 5), none⟩, ⟨some 19, .iaddr 5 (.t 17) (.t 18), none⟩, ⟨some 20, .faddr 0 (.t 19), none⟩, ⟨some 21, .load none (.t 20), none⟩, ⟨some 22, .mv (.t 1), none⟩, ⟨some 23, .mv (.t 5), none⟩, ⟨some 24, .iaddr 5 (.t 22) (.t 23), none⟩, ⟨some 25, .faddr 0 (.t 24), none⟩, ⟨some 26, .load none (.t 25), none⟩, ⟨some 27, .bin .neq (.t 21) (.t 26), none⟩, ⟨some 28, .mv (.t 27), none⟩, ⟨some 29, .mv (.t 0), some (28, false)⟩, ⟨some 30, .mv (.t 5), some (28, false)⟩, ⟨some 31, .iaddr 5 (.t 29) (.t 30), some (28, false)⟩, ⟨some 32, .faddr 1 (.t 31), some (28, false)⟩, ⟨some 33, .load (some 3) (.t 32), some (28, false)⟩, ⟨some 34, .mv (.t 1), some (28, false)⟩, ⟨some 35, .mv (.t 5), some (28, false)⟩, ⟨some 36, .iaddr 5 (.t 34) (.t 35), some (28, false)⟩, ⟨some 37, .faddr 1 (.t 36), some (28, false)⟩, ⟨some 38, .load (some 3) (.t 37), some (28, false)⟩, ⟨some 39, .aeq true [0, 0, 0] (.t 33) (.t 38), some (28, false)⟩, ⟨some 40, .pick (.t 28) (.c (.bool true)) (.t 39), none⟩, ⟨some 41, .mv (.t 40), none⟩, ⟨some 42, .mv (.t 0), some (41, false)⟩, ⟨some 43, .mv (.t 5), some (41, false)⟩, ⟨some 44, .iaddr 5 (.t 42) (.t 43), some (41, false)⟩, ⟨some 45, .faddr 4 (.t 44), some (41, false)⟩, ⟨some 46, .load none (.t 45), some (41, false)⟩, ⟨some 47, .mv (.t 1), some (41, false)⟩, ⟨some 48, .mv (.t 5), some (41, false)⟩, ⟨some 49, .iaddr 5 (.t 47) (.t 48), some (41, false)⟩, ⟨some 50, .faddr 4 (.t 49), some (41, false)⟩, ⟨some 51, .load none (.t 50), some (41, false)⟩, ⟨some 52, .callP 21 [(.t 46), (.t 51)], some (41, false)⟩, ⟨some 53, .un .not (.t 52), some (41, false)⟩, ⟨some 54, .pick (.t 41) (.c (.bool true)) (.t 53), none⟩])
     (.cond (.t 54) (.seq (.ops false [⟨some 4, .mv (.c (.bool false)), none⟩])
      (.ret))
      (.skip))))
    (.ops false [⟨some 15, .mv (.t 5), none⟩, ⟨some 16, .bin .add (.t 15) (.c (.int .i64 1)), none⟩, ⟨some 5, .mv (.t 16), none⟩]))))))
  (.seq (.ops false [⟨some 4, .mv (.c (.bool true)), none⟩])
  (.ret)))),
  [.t 4]⟩

/- slices.Equal[[]noria/api.Cond,noria/api.Cond] -/
def d_slices_Equal_api_Cond_api_Cond : DFun := ⟨
  .seq (.ops false [⟨some 4, .mv (.c (.bool false)), none⟩])
  (.seq (.seq (.ops false [⟨some 6, .mv (.t 0), none⟩, ⟨some 7, .len (.t 6), none⟩, ⟨some 8, .mv (.t 1), none⟩, ⟨some 9, .len (.t 8), none⟩, ⟨some 10, .bin .neq (.t 7) (.t 9), none⟩])
  (.cond (.t 10) (.seq (.ops false [⟨some 4, .mv (.c (.bool false)), none⟩])
   (.ret))
   (.skip)))
  (.seq (.seq (.ops false [⟨some 11, .mv (.t 0), none⟩, ⟨some 12, .len (.t 11), none⟩, ⟨some 13, .mv (.c (.int .i64 0)), none⟩])
  (.block 0 (.loop [0, 1, 12, 13] (some 0) (.seq (.ops false [⟨some 14, .bin .lss (.t 13) (.t 12), none⟩])
    (.seq (.cond (.t 14) (.skip)
     (.exit 0))
    (.seq (.block 1 (.seq (.ops false [⟨some 15, .mv (.t 13), none⟩, ⟨some 5, .mv (.t 15), none⟩])
     (.seq (.ops true [⟨some 16, .mv (.t 0), none⟩, ⟨some 17, .mv (.t 5), none⟩, ⟨some 18, .iaddr 2 (.t 16) (.t 17), none⟩, ⟨some 19, .load (some 2) (.t 18), none⟩, ⟨some 20, .mv (.t 1), none⟩, ⟨some 21, .mv (.t 5), none⟩, ⟨some 22, .iaddr 2 (.t 20) (.t 21), none⟩, ⟨some 23, .load (some 2) (.t 22), none⟩, ⟨some 24, .aeq true [2, 0] (.t 19) (.t 23), none⟩])
     (.cond (.t 24) (.seq (.ops false [⟨some 4, .mv (.c (.bool false)), none⟩])
      (.ret))
      (.skip)))))
    (.ops false [⟨some 25, .bin .add (.t 13) (.c (.int .i64 1)), none⟩, ⟨some 13, .mv (.t 25), none⟩])))))))
  (.seq (.ops false [⟨some 4, .mv (.c (.bool true)), none⟩])
  (.ret)))),
  [.t 4]⟩

/- slices.Clone[[]noria/api.Stmt,noria/api.Stmt] -/
def d_slices_Clone_api_Stmt_api_Stmt : DFun := ⟨
  .seq (.ops false [⟨some 2, .mv (.c (.nil)), none⟩])
  (.seq (.seq (.ops false [⟨some 3, .mv (.t 0), none⟩, ⟨some 4, .snil false (.t 3), none⟩])
  (.cond (.t 4) (.seq (.ops false [⟨some 2, .mv (.c (.nil)), none⟩])
   (.ret))
   (.skip)))
  (.seq (.ops false [⟨some 5, .bslice false [.int .i64 0, .int .i64 0, .nil, .int .i64 0, .nil, .nil, .int .i64 0, .bool false, .str [], .int .i64 0, .nil] [], none⟩, ⟨some 6, .mv (.t 0), none⟩, ⟨some 7, .append 11 (.t 5) (.t 6), none⟩, ⟨some 2, .mv (.t 7), none⟩])
  (.ret))),
  [.t 2]⟩

/- noria/noriaref01.Names -/
def d_noriaref01_Names : DFun := ⟨
  .seq (.ops false [⟨some 4, .mv (.c (.bool false)), none⟩])
  (.seq (.seq (.ops false [⟨some 6, .mv (.t 0), none⟩, ⟨some 7, .len (.t 6), none⟩, ⟨some 8, .mv (.t 1), none⟩, ⟨some 9, .len (.t 8), none⟩, ⟨some 10, .bin .neq (.t 7) (.t 9), none⟩])
  (.cond (.t 10) (.seq (.ops false [⟨some 4, .mv (.c (.bool false)), none⟩])
   (.ret))
   (.skip)))
  (.seq (.seq (.ops false [⟨some 5, .mv (.c (.int .i64 0)), none⟩])
  (.block 0 (.loop [0, 1, 5] (some 0) (.seq (.seq (.ops false [⟨some 11, .mv (.t 5), none⟩, ⟨some 12, .mv (.t 0), none⟩, ⟨some 13, .len (.t 12), none⟩, ⟨some 14, .bin .lss (.t 11) (.t 13), none⟩])
    (.cond (.t 14) (.skip)
     (.exit 0)))
    (.seq (.block 1 (.seq (.ops true [⟨some 17, .mv (.t 0), none⟩, ⟨some 18, .mv (.t 5), none⟩, ⟨some 19, .iaddr 1 (.t 17) (.t 18), none⟩, ⟨some 20, .load none (.t 19), none⟩, ⟨some 21, .mv (.t 1), none⟩, ⟨some 22, .mv (.t 5), none⟩, ⟨some 23, .iaddr 1 (.t 21) (.t 22), none⟩, ⟨some 24, .load none (.t 23), none⟩, ⟨some 25, .bin .neq (.t 20) (.t 24), none⟩])
     (.cond (.t 25) (.seq (.ops false [⟨some 4, .mv (.c (.bool false)), none⟩])
      (.ret))
      (.skip))))
    (.ops false [⟨some 15, .mv (.t 5), none⟩, ⟨some 16, .bin .add (.t 15) (.c (.int .i64 1)), none⟩, ⟨some 5, .mv (.t 16), none⟩]))))))
  (.seq (.ops false [⟨some 4, .mv (.c (.bool true)), none⟩])
  (.ret)))),
  [.t 4]⟩

/- noria/noriaref21.SameAtoms -/
def d_noriaref21_SameAtoms : DFun := ⟨
  .seq (.ops false [⟨some 4, .mv (.c (.bool false)), none⟩])
  (.seq (.seq (.ops false [⟨some 6, .mv (.t 0), none⟩, ⟨some 7, .len (.t 6), none⟩, ⟨some 8, .mv (.t 1), none⟩, ⟨some 9, .len (.t 8), none⟩, ⟨some 10, .bin .neq (.t 7) (.t 9), none⟩])
  (.cond (.t 10) (.seq (.ops false [⟨some 4, .mv (.c (.bool false)), none⟩])
   (.ret))
   (.skip)))
  (.seq (.seq (.ops false [⟨some 5, .mv (.c (.int .i64 0)), none⟩])
  (.block 0 (.loop [0, 1, 5] (some 0) (.seq (.seq (.ops false [⟨some 11, .mv (.t 5), none⟩, ⟨some 12, .mv (.t 0), none⟩, ⟨some 13, .len (.t 12), none⟩, ⟨some 14, .bin .lss (.t 11) (.t 13), none⟩])
    (.cond (.t 14) (.skip)
     (.exit 0)))
    (.seq (.block 1 (.seq (.ops true [⟨some 17, .mv (.t 0), none⟩, ⟨some 18, .mv (.t 5), none⟩, ⟨some 19, .iaddr 2 (.t 17) (.t 18), none⟩, ⟨some 20, .load (some 2) (.t 19), none⟩, ⟨some 21, .mv (.t 1), none⟩, ⟨some 22, .mv (.t 5), none⟩, ⟨some 23, .iaddr 2 (.t 21) (.t 22), none⟩, ⟨some 24, .load (some 2) (.t 23), none⟩, ⟨some 25, .aeq true [2, 0] (.t 20) (.t 24), none⟩])
     (.cond (.t 25) (.seq (.ops false [⟨some 4, .mv (.c (.bool false)), none⟩])
      (.ret))
      (.skip))))
    (.ops false [⟨some 15, .mv (.t 5), none⟩, ⟨some 16, .bin .add (.t 15) (.c (.int .i64 1)), none⟩, ⟨some 5, .mv (.t 16), none⟩]))))))
  (.seq (.ops false [⟨some 4, .mv (.c (.bool true)), none⟩])
  (.ret)))),
  [.t 4]⟩

/- noria/noriaref01.Vals -/
def d_noriaref01_Vals : DFun := ⟨
  .seq (.ops false [⟨some 4, .mv (.c (.bool false)), none⟩])
  (.seq (.seq (.ops false [⟨some 6, .mv (.t 0), none⟩, ⟨some 7, .len (.t 6), none⟩, ⟨some 8, .mv (.t 1), none⟩, ⟨some 9, .len (.t 8), none⟩, ⟨some 10, .bin .neq (.t 7) (.t 9), none⟩])
  (.cond (.t 10) (.seq (.ops false [⟨some 4, .mv (.c (.bool false)), none⟩])
   (.ret))
   (.skip)))
  (.seq (.seq (.ops false [⟨some 5, .mv (.c (.int .i64 0)), none⟩])
  (.block 0 (.loop [0, 1, 5] (some 0) (.seq (.seq (.ops false [⟨some 11, .mv (.t 5), none⟩, ⟨some 12, .mv (.t 0), none⟩, ⟨some 13, .len (.t 12), none⟩, ⟨some 14, .bin .lss (.t 11) (.t 13), none⟩])
    (.cond (.t 14) (.skip)
     (.exit 0)))
    (.seq (.block 1 (.seq (.ops true [⟨some 17, .mv (.t 0), none⟩, ⟨some 18, .mv (.t 5), none⟩, ⟨some 19, .iaddr 1 (.t 17) (.t 18), none⟩, ⟨some 20, .load none (.t 19), none⟩, ⟨some 21, .mv (.t 1), none⟩, ⟨some 22, .mv (.t 5), none⟩, ⟨some 23, .iaddr 1 (.t 21) (.t 22), none⟩, ⟨some 24, .load none (.t 23), none⟩, ⟨some 25, .bin .neq (.t 20) (.t 24), none⟩])
     (.cond (.t 25) (.seq (.ops false [⟨some 4, .mv (.c (.bool false)), none⟩])
      (.ret))
      (.skip))))
    (.ops false [⟨some 15, .mv (.t 5), none⟩, ⟨some 16, .bin .add (.t 15) (.c (.int .i64 1)), none⟩, ⟨some 5, .mv (.t 16), none⟩]))))))
  (.seq (.ops false [⟨some 4, .mv (.c (.bool true)), none⟩])
  (.ret)))),
  [.t 4]⟩

end Go.Proofs.Ytonpjojccjijfaa
