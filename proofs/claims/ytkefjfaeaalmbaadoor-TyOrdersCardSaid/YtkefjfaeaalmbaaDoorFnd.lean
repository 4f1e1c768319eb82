/- The data-level reading of the functions. -/
import Derived.Test.YtkefjfaeaalmbaaDoorNkZ
set_option linter.all false
namespace Go.Proofs.YtkefjfaeaalmbaaDoor
open Go.Nk

/- noria/norialaw05.TyAlike -/
def d_norialaw05_TyAlike : DFun := ⟨
  .seq (.ops false [⟨some 5, .bref (.t 2), none⟩, ⟨some 6, .mv (.c (.bool false)), none⟩])
  (.seq (.seq (.ops false [⟨some 7, .mv (.t 0), none⟩, ⟨some 8, .callP 7 [(.t 7)], none⟩, ⟨some 9, .un .not (.t 8), none⟩, ⟨some 10, .mv (.t 9), none⟩, ⟨some 11, .mv (.t 1), some (10, false)⟩, ⟨some 12, .callP 7 [(.t 11)], some (10, false)⟩, ⟨some 13, .un .not (.t 12), some (10, false)⟩, ⟨some 14, .pick (.t 10) (.c (.bool true)) (.t 13), none⟩])
  (.cond (.t 14) (.seq (.ops false [⟨some 15, .callP 8 [], none⟩, ⟨some 6, .mv (.t 15), none⟩])
   (.ret))
   (.skip)))
  (.seq (.opsP [(0, ⟨some 16, .mv (.t 0), none⟩), (1, ⟨some 17, .iaddrA 2 3 (.t 5) (.c (.int .i64 0)), none⟩), (2, ⟨some 18, .load (some 3) (.t 17), none⟩), (3, ⟨some 19, .mv (.t 1), none⟩), (4, ⟨some 20, .iaddrA 2 3 (.t 5) (.c (.int .i64 1)), none⟩), (5, ⟨some 21, .load (some 3) (.t 20), none⟩), (7, ⟨some 23, .mv (.t 0), none⟩), (8, ⟨some 24, .iaddrA 2 3 (.t 5) (.c (.int .i64 0)), none⟩), (9, ⟨some 25, .load (some 3) (.t 24), none⟩), (10, ⟨some 26, .mv (.t 1), none⟩), (11, ⟨some 27, .iaddrA 2 3 (.t 5) (.c (.int .i64 1)), none⟩), (12, ⟨some 28, .load (some 3) (.t 27), none⟩), (6, ⟨some 22, .callP 9 [(.t 16), (.t 18), (.t 19), (.t 21)], none⟩), (13, ⟨some 29, .callP 10 [(.t 23), (.t 25), (.t 26), (.t 28)], none⟩), (14, ⟨some 30, .beq false (.t 22) (.t 29), none⟩), (15, ⟨some 31, .mv (.t 30), none⟩), (16, ⟨some 32, .callP 8 [], some (31, true)⟩), (17, ⟨some 33, .pick (.t 31) (.t 32) (.c (.bool false)), none⟩), (18, ⟨some 6, .mv (.t 33), none⟩)])
  (.ret))),
  [.t 6]⟩

/- noria/norialaw05.TyTells -/
def d_norialaw05_TyTells : DFun := ⟨
  .seq (.ops false [⟨some 4, .bref (.t 1), none⟩, ⟨some 6, .mv (.c (.bool false)), none⟩])
  (.seq (.seq (.ops false [⟨some 13, .mv (.t 0), none⟩, ⟨some 14, .callP 7 [(.t 13)], none⟩, ⟨some 15, .un .not (.t 14), none⟩, ⟨some 16, .mv (.t 15), none⟩, ⟨some 17, .mv (.t 2), some (16, false)⟩, ⟨some 18, .lenS (.t 17), some (16, false)⟩, ⟨some 19, .bin .gtr (.t 18) (.c (.int .i64 1000)), some (16, false)⟩, ⟨some 20, .pick (.t 16) (.c (.bool true)) (.t 19), none⟩])
  (.cond (.t 20) (.seq (.ops false [⟨some 21, .callP 8 [], none⟩, ⟨some 6, .mv (.t 21), none⟩])
   (.ret))
   (.skip)))
  (.seq (.ops false [⟨some 23, .mv (.t 0), none⟩, ⟨some 24, .mv (.t 2), none⟩, ⟨some 25, .callP 11 [(.t 23), (.t 24)], none⟩, ⟨some 22, .mv (.t 25), none⟩, ⟨some 26, .extract 0 (.t 22), none⟩, ⟨some 27, .extract 1 (.t 22), none⟩, ⟨some 28, .extract 2 (.t 22), none⟩, ⟨some 7, .mv (.t 26), none⟩, ⟨some 8, .mv (.t 27), none⟩, ⟨some 9, .mv (.t 28), none⟩])
  (.seq (.ops false [⟨some 30, .mv (.t 0), none⟩, ⟨some 31, .mv (.t 2), none⟩, ⟨some 32, .callP 12 [(.t 30), (.t 31)], none⟩, ⟨some 29, .mv (.t 32), none⟩, ⟨some 33, .extract 0 (.t 29), none⟩, ⟨some 34, .extract 1 (.t 29), none⟩, ⟨some 35, .extract 2 (.t 29), none⟩, ⟨some 10, .mv (.t 33), none⟩, ⟨some 11, .mv (.t 34), none⟩, ⟨some 12, .mv (.t 35), none⟩])
  (.seq (.seq (.ops false [⟨some 36, .mv (.t 7), none⟩, ⟨some 37, .mv (.t 10), none⟩, ⟨some 38, .bin .neq (.t 36) (.t 37), none⟩, ⟨some 39, .mv (.t 38), none⟩, ⟨some 40, .mv (.t 8), some (39, false)⟩, ⟨some 41, .mv (.t 11), some (39, false)⟩, ⟨some 42, .bin .neq (.t 40) (.t 41), some (39, false)⟩, ⟨some 43, .pick (.t 39) (.c (.bool true)) (.t 42), none⟩, ⟨some 44, .mv (.t 43), none⟩, ⟨some 45, .mv (.t 9), some (44, false)⟩, ⟨some 46, .mv (.t 12), some (44, false)⟩, ⟨some 47, .beq true (.t 45) (.t 46), some (44, false)⟩, ⟨some 48, .pick (.t 44) (.c (.bool true)) (.t 47), none⟩])
  (.cond (.t 48) (.seq (.ops false [⟨some 6, .mv (.c (.bool false)), none⟩])
   (.ret))
   (.skip)))
  (.seq (.opsP [(0, ⟨some 49, .mv (.t 0), none⟩), (1, ⟨some 50, .load (some 3) (.t 4), none⟩), (3, ⟨some 52, .mv (.t 0), none⟩), (4, ⟨some 53, .load (some 3) (.t 4), none⟩), (2, ⟨some 51, .callP 13 [(.t 49), (.t 50)], none⟩), (5, ⟨some 54, .callP 14 [(.t 52), (.t 53)], none⟩), (6, ⟨some 55, .beq false (.t 51) (.t 54), none⟩), (7, ⟨some 56, .mv (.t 55), none⟩), (8, ⟨some 57, .load (some 3) (.t 4), some (56, true)⟩), (10, ⟨some 59, .load (some 3) (.t 4), some (56, true)⟩), (9, ⟨some 58, .callP 15 [(.t 57)], some (56, true)⟩), (11, ⟨some 60, .callP 16 [(.t 59)], some (56, true)⟩), (12, ⟨some 61, .bin .eql (.t 58) (.t 60), some (56, true)⟩), (13, ⟨some 62, .pick (.t 56) (.t 61) (.c (.bool false)), none⟩), (14, ⟨some 63, .mv (.t 62), none⟩), (15, ⟨some 64, .load (some 3) (.t 4), some (63, true)⟩), (17, ⟨some 66, .load (some 3) (.t 4), some (63, true)⟩), (16, ⟨some 65, .callP 17 [(.t 64)], some (63, true)⟩), (18, ⟨some 67, .callP 18 [(.t 66)], some (63, true)⟩), (19, ⟨some 68, .aeq false [0, 0, 0] (.t 65) (.t 67), some (63, true)⟩), (20, ⟨some 69, .pick (.t 63) (.t 68) (.c (.bool false)), none⟩), (21, ⟨some 70, .mv (.t 69), none⟩), (22, ⟨some 71, .mv (.t 0), some (70, true)⟩), (23, ⟨some 72, .load (some 3) (.t 4), some (70, true)⟩), (25, ⟨some 74, .mv (.t 0), some (70, true)⟩), (26, ⟨some 75, .load (some 3) (.t 4), some (70, true)⟩), (24, ⟨some 73, .callP 19 [(.t 71), (.t 72)], some (70, true)⟩), (27, ⟨some 76, .callP 20 [(.t 74), (.t 75)], some (70, true)⟩), (28, ⟨some 77, .bin .eql (.t 73) (.t 76), some (70, true)⟩), (29, ⟨some 78, .pick (.t 70) (.t 77) (.c (.bool false)), none⟩), (30, ⟨some 79, .mv (.t 78), none⟩), (31, ⟨some 80, .callP 8 [], some (79, true)⟩), (32, ⟨some 81, .pick (.t 79) (.t 80) (.c (.bool false)), none⟩), (33, ⟨some 6, .mv (.t 81), none⟩)])
  (.ret)))))),
  [.t 6]⟩

/- noria/norialaw05.TyEnums -/
def d_norialaw05_TyEnums : DFun := ⟨
  .seq (.ops false [⟨some 2, .mv (.c (.bool false)), none⟩])
  (.seq (.seq (.ops false [⟨some 3, .mv (.t 0), none⟩, ⟨some 4, .callP 7 [(.t 3)], none⟩, ⟨some 5, .un .not (.t 4), none⟩])
  (.cond (.t 5) (.seq (.ops false [⟨some 6, .callP 8 [], none⟩, ⟨some 2, .mv (.t 6), none⟩])
   (.ret))
   (.skip)))
  (.seq (.ops false [⟨some 7, .mv (.t 0), none⟩, ⟨some 8, .callP 22 [(.t 7)], none⟩, ⟨some 9, .callP 21 [(.t 8)], none⟩, ⟨some 10, .mv (.t 0), none⟩, ⟨some 11, .callP 23 [(.t 10)], none⟩, ⟨some 12, .bin .eql (.t 9) (.t 11), none⟩, ⟨some 13, .mv (.t 12), none⟩, ⟨some 14, .callP 8 [], some (13, true)⟩, ⟨some 15, .pick (.t 13) (.t 14) (.c (.bool false)), none⟩, ⟨some 2, .mv (.t 15), none⟩])
  (.ret))),
  [.t 2]⟩

/- noria/norialaw05.TyOrders -/
def d_norialaw05_TyOrders : DFun := ⟨
  .seq (.ops false [⟨some 5, .bref (.t 2), none⟩, ⟨some 6, .mv (.c (.bool false)), none⟩])
  (.seq (.seq (.ops false [⟨some 7, .mv (.t 0), none⟩, ⟨some 8, .callP 7 [(.t 7)], none⟩, ⟨some 9, .un .not (.t 8), none⟩, ⟨some 10, .mv (.t 9), none⟩, ⟨some 11, .mv (.t 1), some (10, false)⟩, ⟨some 12, .callP 7 [(.t 11)], some (10, false)⟩, ⟨some 13, .un .not (.t 12), some (10, false)⟩, ⟨some 14, .pick (.t 10) (.c (.bool true)) (.t 13), none⟩])
  (.cond (.t 14) (.seq (.ops false [⟨some 15, .callP 8 [], none⟩, ⟨some 6, .mv (.t 15), none⟩])
   (.ret))
   (.skip)))
  (.seq (.seq (.opsP [(0, ⟨some 16, .mv (.t 0), none⟩), (1, ⟨some 17, .iaddrA 2 3 (.t 5) (.c (.int .i64 0)), none⟩), (2, ⟨some 18, .load (some 3) (.t 17), none⟩), (3, ⟨some 19, .mv (.t 1), none⟩), (4, ⟨some 20, .iaddrA 2 3 (.t 5) (.c (.int .i64 1)), none⟩), (5, ⟨some 21, .load (some 3) (.t 20), none⟩), (7, ⟨some 23, .mv (.t 1), none⟩), (8, ⟨some 24, .iaddrA 2 3 (.t 5) (.c (.int .i64 1)), none⟩), (9, ⟨some 25, .load (some 3) (.t 24), none⟩), (10, ⟨some 26, .mv (.t 0), none⟩), (11, ⟨some 27, .iaddrA 2 3 (.t 5) (.c (.int .i64 0)), none⟩), (12, ⟨some 28, .load (some 3) (.t 27), none⟩), (6, ⟨some 22, .callP 9 [(.t 16), (.t 18), (.t 19), (.t 21)], none⟩), (13, ⟨some 29, .callP 9 [(.t 23), (.t 25), (.t 26), (.t 28)], none⟩), (14, ⟨some 30, .beq true (.t 22) (.t 29), none⟩), (15, ⟨some 31, .mv (.t 30), none⟩), (16, ⟨some 32, .mv (.t 0), some (31, false)⟩), (17, ⟨some 33, .iaddrA 2 3 (.t 5) (.c (.int .i64 0)), some (31, false)⟩), (18, ⟨some 34, .load (some 3) (.t 33), some (31, false)⟩), (19, ⟨some 35, .mv (.t 0), some (31, false)⟩), (20, ⟨some 36, .iaddrA 2 3 (.t 5) (.c (.int .i64 0)), some (31, false)⟩), (21, ⟨some 37, .load (some 3) (.t 36), some (31, false)⟩), (23, ⟨some 39, .mv (.t 0), some (31, false)⟩), (24, ⟨some 40, .iaddrA 2 3 (.t 5) (.c (.int .i64 0)), some (31, false)⟩), (25, ⟨some 41, .load (some 3) (.t 40), some (31, false)⟩), (22, ⟨some 38, .callP 9 [(.t 32), (.t 34), (.t 35), (.t 37)], some (31, false)⟩), (26, ⟨some 42, .callP 13 [(.t 39), (.t 41)], some (31, false)⟩), (27, ⟨some 43, .beq true (.t 38) (.t 42), some (31, false)⟩), (28, ⟨some 44, .pick (.t 31) (.c (.bool true)) (.t 43), none⟩)])
  (.cond (.t 44) (.seq (.ops false [⟨some 6, .mv (.c (.bool false)), none⟩])
   (.ret))
   (.skip)))
  (.seq (.seq (.ops false [⟨some 45, .mv (.t 0), none⟩, ⟨some 46, .callP 22 [(.t 45)], none⟩, ⟨some 47, .callP 21 [(.t 46)], none⟩, ⟨some 48, .bin .neq (.t 47) (.c (.int .i64 0)), none⟩, ⟨some 49, .mv (.t 48), none⟩, ⟨some 50, .mv (.t 0), some (49, false)⟩, ⟨some 51, .iaddrA 2 3 (.t 5) (.c (.int .i64 0)), some (49, false)⟩, ⟨some 52, .load (some 3) (.t 51), some (49, false)⟩, ⟨some 53, .callP 13 [(.t 50), (.t 52)], some (49, false)⟩, ⟨some 54, .un .not (.t 53), some (49, false)⟩, ⟨some 55, .pick (.t 49) (.c (.bool true)) (.t 54), none⟩, ⟨some 56, .mv (.t 55), none⟩, ⟨some 57, .mv (.t 0), some (56, false)⟩, ⟨some 58, .iaddrA 2 3 (.t 5) (.c (.int .i64 1)), some (56, false)⟩, ⟨some 59, .load (some 3) (.t 58), some (56, false)⟩, ⟨some 60, .callP 13 [(.t 57), (.t 59)], some (56, false)⟩, ⟨some 61, .un .not (.t 60), some (56, false)⟩, ⟨some 62, .pick (.t 56) (.c (.bool true)) (.t 61), none⟩])
  (.cond (.t 62) (.seq (.ops false [⟨some 63, .callP 8 [], none⟩, ⟨some 6, .mv (.t 63), none⟩])
   (.ret))
   (.skip)))
  (.seq (.opsP [(0, ⟨some 64, .mv (.t 0), none⟩), (1, ⟨some 65, .iaddrA 2 3 (.t 5) (.c (.int .i64 0)), none⟩), (2, ⟨some 66, .load (some 3) (.t 65), none⟩), (3, ⟨some 67, .mv (.t 0), none⟩), (4, ⟨some 68, .iaddrA 2 3 (.t 5) (.c (.int .i64 1)), none⟩), (5, ⟨some 69, .load (some 3) (.t 68), none⟩), (7, ⟨some 71, .iaddrA 2 3 (.t 5) (.c (.int .i64 0)), none⟩), (8, ⟨some 72, .load (some 3) (.t 71), none⟩), (9, ⟨some 73, .iaddrA 2 3 (.t 5) (.c (.int .i64 1)), none⟩), (10, ⟨some 74, .load (some 3) (.t 73), none⟩), (11, ⟨some 75, .aeq false [0, 0, 0] (.t 72) (.t 74), none⟩), (6, ⟨some 70, .callP 9 [(.t 64), (.t 66), (.t 67), (.t 69)], none⟩), (12, ⟨some 76, .beq false (.t 70) (.t 75), none⟩), (13, ⟨some 77, .mv (.t 76), none⟩), (14, ⟨some 78, .mv (.t 0), some (77, true)⟩), (15, ⟨some 79, .iaddrA 2 3 (.t 5) (.c (.int .i64 0)), some (77, true)⟩), (16, ⟨some 80, .load (some 3) (.t 79), some (77, true)⟩), (18, ⟨some 82, .mv (.t 0), some (77, true)⟩), (19, ⟨some 83, .iaddrA 2 3 (.t 5) (.c (.int .i64 1)), some (77, true)⟩), (20, ⟨some 84, .load (some 3) (.t 83), some (77, true)⟩), (23, ⟨some 87, .iaddrA 2 3 (.t 5) (.c (.int .i64 0)), some (77, true)⟩), (24, ⟨some 88, .load (some 3) (.t 87), some (77, true)⟩), (25, ⟨some 89, .iaddrA 2 3 (.t 5) (.c (.int .i64 1)), some (77, true)⟩), (26, ⟨some 90, .load (some 3) (.t 89), some (77, true)⟩), (27, ⟨some 91, .aeq false [0, 0, 0] (.t 88) (.t 90), some (77, true)⟩), (17, ⟨some 81, .callP 19 [(.t 78), (.t 80)], some (77, true)⟩), (21, ⟨some 85, .callP 19 [(.t 82), (.t 84)], some (77, true)⟩), (22, ⟨some 86, .bin .eql (.t 81) (.t 85), some (77, true)⟩), (28, ⟨some 92, .beq false (.t 86) (.t 91), some (77, true)⟩), (29, ⟨some 93, .pick (.t 77) (.t 92) (.c (.bool false)), none⟩), (30, ⟨some 94, .mv (.t 93), none⟩), (31, ⟨some 95, .callP 8 [], some (94, true)⟩), (32, ⟨some 96, .pick (.t 94) (.t 95) (.c (.bool false)), none⟩), (33, ⟨some 6, .mv (.t 96), none⟩)])
  (.ret))))),
  [.t 6]⟩

/- noria/noriaref05.Small -/
def d_noriaref05_Small : DFun := ⟨
  .seq (.ops false [⟨some 2, .mv (.c (.bool false)), none⟩])
  (.seq (.seq (.ops false [⟨some 5, .mv (.t 0), none⟩, ⟨some 6, .len (.t 5), none⟩, ⟨some 7, .bin .gtr (.t 6) (.c (.int .i64 8)), none⟩])
  (.cond (.t 7) (.seq (.ops false [⟨some 2, .mv (.c (.bool false)), none⟩])
   (.ret))
   (.skip)))
  (.seq (.seq (.ops false [⟨some 3, .mv (.c (.int .i64 0)), none⟩])
  (.block 0 (.loop [0, 3] (some 0) (.seq (.seq (.ops false [⟨some 8, .mv (.t 3), none⟩, ⟨some 9, .mv (.t 0), none⟩, ⟨some 10, .len (.t 9), none⟩, ⟨some 11, .bin .lss (.t 8) (.t 10), none⟩])
    (.cond (.t 11) (.skip)
     (.exit 0)))
    (.seq (.block 1 (.seq (.seq (.ops false [⟨some 14, .mv (.t 0), none⟩, ⟨some 15, .mv (.t 3), none⟩, ⟨some 16, .iaddr 2 (.t 14) (.t 15), none⟩, ⟨some 17, .faddr 1 (.t 16), none⟩, ⟨some 18, .load none (.t 17), none⟩, ⟨some 19, .len (.t 18), none⟩, ⟨some 20, .bin .gtr (.t 19) (.c (.int .i64 12)), none⟩, ⟨some 21, .mv (.t 20), none⟩, ⟨some 22, .mv (.t 0), some (21, false)⟩, ⟨some 23, .mv (.t 3), some (21, false)⟩, ⟨some 24, .iaddr 2 (.t 22) (.t 23), some (21, false)⟩, ⟨some 25, .faddr 0 (.t 24), some (21, false)⟩, ⟨some 26, .load none (.t 25), some (21, false)⟩, ⟨some 27, .lenS (.t 26), some (21, false)⟩, ⟨some 28, .bin .gtr (.t 27) (.c (.int .i64 100)), some (21, false)⟩, ⟨some 29, .pick (.t 21) (.c (.bool true)) (.t 28), none⟩])
     (.cond (.t 29) (.seq (.ops false [⟨some 2, .mv (.c (.bool false)), none⟩])
      (.ret))
      (.skip)))
     (.seq (.ops false [⟨some 4, .mv (.c (.int .i64 0)), none⟩])
     (.block 2 (.loop [0, 3, 4] (some 0) (.seq (.seq (.ops false [⟨some 30, .mv (.t 4), none⟩, ⟨some 31, .mv (.t 0), none⟩, ⟨some 32, .mv (.t 3), none⟩, ⟨some 33, .iaddr 2 (.t 31) (.t 32), none⟩, ⟨some 34, .faddr 1 (.t 33), none⟩, ⟨some 35, .load none (.t 34), none⟩, ⟨some 36, .len (.t 35), none⟩, ⟨some 37, .bin .lss (.t 30) (.t 36), none⟩])
       (.cond (.t 37) (.skip)
        (.exit 2)))
       (.seq (.block 3 (.seq (.ops false [⟨some 40, .mv (.t 0), none⟩, ⟨some 41, .mv (.t 3), none⟩, ⟨some 42, .iaddr 2 (.t 40) (.t 41), none⟩, ⟨some 43, .faddr 1 (.t 42), none⟩, ⟨some 44, .load none (.t 43), none⟩, ⟨some 45, .mv (.t 4), none⟩, ⟨some 46, .iaddr 1 (.t 44) (.t 45), none⟩, ⟨some 47, .load none (.t 46), none⟩, ⟨some 48, .lenS (.t 47), none⟩, ⟨some 49, .bin .gtr (.t 48) (.c (.int .i64 100)), none⟩])
        (.cond (.t 49) (.seq (.ops false [⟨some 2, .mv (.c (.bool false)), none⟩])
         (.ret))
         (.skip))))
       (.ops false [⟨some 38, .mv (.t 4), none⟩, ⟨some 39, .bin .add (.t 38) (.c (.int .i64 1)), none⟩, ⟨some 4, .mv (.t 39), none⟩]))))))))
    (.ops false [⟨some 12, .mv (.t 3), none⟩, ⟨some 13, .bin .add (.t 12) (.c (.int .i64 1)), none⟩, ⟨some 3, .mv (.t 13), none⟩]))))))
  (.seq (.ops false [⟨some 2, .mv (.c (.bool true)), none⟩])
  (.ret)))),
  [.t 2]⟩

/- noria/norialaw05.live -/
def d_norialaw05_live : DFun := ⟨
  .seq (.ops false [⟨some 0, .mv (.c (.bool false)), none⟩])
  (.seq (.ops false [⟨some 2, .build [.int .i64 0, .int .i64 0, .int .i64 0] [(0, 1, (.c (.int .i64 2))), (2, 1, (.c (.int .i64 3)))], none⟩, ⟨some 1, .alloc [.int .i64 0, .int .i64 0, .int .i64 0], none⟩, ⟨none, .store 3 (.t 1) (.t 2), none⟩])
  (.seq (.ops false [⟨some 3, .load (some 3) (.t 1), none⟩, ⟨some 4, .callP 19 [(.c (.nil)), (.t 3)], none⟩, ⟨some 5, .bin .eql (.t 4) (.c (.str [98, 111, 111, 108, 91, 51, 93])), none⟩, ⟨some 6, .mv (.t 5), none⟩, ⟨some 7, .load (some 3) (.t 1), some (6, true)⟩, ⟨some 8, .callP 15 [(.t 7)], some (6, true)⟩, ⟨some 9, .bin .eql (.t 8) (.c (.int .i64 3)), some (6, true)⟩, ⟨some 10, .pick (.t 6) (.t 9) (.c (.bool false)), none⟩, ⟨some 0, .mv (.t 10), none⟩])
  (.ret))),
  [.t 0]⟩

/- noria/ty.Alike -/
def d_ty_Alike : DFun := ⟨
  .seq (.ops false [⟨some 5, .bref (.t 1), none⟩, ⟨some 7, .bref (.t 3), none⟩, ⟨some 8, .mv (.c (.bool false)), none⟩])
  (.seq (.seq (.ops false [⟨some 11, .mv (.t 0), none⟩, ⟨some 12, .load (some 3) (.t 5), none⟩, ⟨some 13, .callP 13 [(.t 11), (.t 12)], none⟩, ⟨some 14, .un .not (.t 13), none⟩, ⟨some 15, .mv (.t 14), none⟩, ⟨some 16, .mv (.t 2), some (15, false)⟩, ⟨some 17, .load (some 3) (.t 7), some (15, false)⟩, ⟨some 18, .callP 13 [(.t 16), (.t 17)], some (15, false)⟩, ⟨some 19, .un .not (.t 18), some (15, false)⟩, ⟨some 20, .pick (.t 15) (.c (.bool true)) (.t 19), none⟩, ⟨some 21, .mv (.t 20), none⟩, ⟨some 22, .faddr 0 (.t 5), some (21, false)⟩, ⟨some 23, .load none (.t 22), some (21, false)⟩, ⟨some 24, .faddr 0 (.t 7), some (21, false)⟩, ⟨some 25, .load none (.t 24), some (21, false)⟩, ⟨some 26, .bin .neq (.t 23) (.t 25), some (21, false)⟩, ⟨some 27, .pick (.t 21) (.c (.bool true)) (.t 26), none⟩, ⟨some 28, .mv (.t 27), none⟩, ⟨some 29, .faddr 2 (.t 5), some (28, false)⟩, ⟨some 30, .load none (.t 29), some (28, false)⟩, ⟨some 31, .faddr 2 (.t 7), some (28, false)⟩, ⟨some 32, .load none (.t 31), some (28, false)⟩, ⟨some 33, .bin .neq (.t 30) (.t 32), some (28, false)⟩, ⟨some 34, .pick (.t 28) (.c (.bool true)) (.t 33), none⟩])
  (.cond (.t 34) (.seq (.ops false [⟨some 8, .mv (.c (.bool false)), none⟩])
   (.ret))
   (.skip)))
  (.seq (.seq (.ops false [⟨some 35, .faddr 0 (.t 5), none⟩, ⟨some 36, .load none (.t 35), none⟩, ⟨some 37, .bin .neq (.t 36) (.c (.int .i64 3)), none⟩])
  (.cond (.t 37) (.seq (.ops false [⟨some 8, .mv (.c (.bool true)), none⟩])
   (.ret))
   (.skip)))
  (.seq (.rsv (.rsv (.opsS [] [(0, ⟨some 38, .mv (.t 0), none⟩), (1, ⟨some 39, .im (.faddr 1 (.t 5)), none⟩), (2, ⟨some 40, .im (.load none (.t 39)), none⟩), (3, ⟨some 41, .im (.iaddr 2 (.t 38) (.t 40)), none⟩), (4, ⟨some 42, .im (.load (some 2) (.t 41)), none⟩), (5, ⟨some 43, .mv (.t 2), none⟩), (6, ⟨some 44, .im (.faddr 1 (.t 7)), none⟩), (7, ⟨some 45, .im (.load none (.t 44)), none⟩), (8, ⟨some 46, .im (.iaddr 2 (.t 43) (.t 45)), none⟩), (9, ⟨some 47, .im (.load (some 2) (.t 46)), none⟩), (10, ⟨some 9, .aa 0 [.str [], .nil], none⟩), (11, ⟨some 10, .aa 1 [.str [], .nil], none⟩), (12, ⟨none, .store 2 (.t 9) (.t 42), none⟩), (13, ⟨none, .store 2 (.t 10) (.t 47), none⟩)])))
  (.seq (.ops false [⟨some 48, .faddr 0 (.t 9), none⟩, ⟨some 49, .load none (.t 48), none⟩, ⟨some 50, .faddr 0 (.t 10), none⟩, ⟨some 51, .load none (.t 50), none⟩, ⟨some 52, .bin .eql (.t 49) (.t 51), none⟩, ⟨some 53, .mv (.t 52), none⟩, ⟨some 54, .faddr 1 (.t 9), some (53, true)⟩, ⟨some 55, .load none (.t 54), some (53, true)⟩, ⟨some 56, .faddr 1 (.t 10), some (53, true)⟩, ⟨some 57, .load none (.t 56), some (53, true)⟩, ⟨some 58, .callP 24 [(.t 55), (.t 57)], some (53, true)⟩, ⟨some 59, .pick (.t 53) (.t 58) (.c (.bool false)), none⟩, ⟨some 8, .mv (.t 59), none⟩])
  (.ret))))),
  [.t 8]⟩

/- noria/noriaref05.Alike -/
def d_noriaref05_Alike : DFun := ⟨
  .seq (.ops false [⟨some 5, .box (.t 1), none⟩, ⟨some 7, .box (.t 3), none⟩, ⟨some 8, .mv (.c (.bool false)), none⟩])
  (.seq (.seq (.ops false [⟨some 9, .mv (.t 0), none⟩, ⟨some 10, .load (some 3) (.t 5), none⟩, ⟨some 11, .callP 14 [(.t 9), (.t 10)], none⟩, ⟨some 12, .un .not (.t 11), none⟩, ⟨some 13, .mv (.t 12), none⟩, ⟨some 14, .mv (.t 2), some (13, false)⟩, ⟨some 15, .load (some 3) (.t 7), some (13, false)⟩, ⟨some 16, .callP 14 [(.t 14), (.t 15)], some (13, false)⟩, ⟨some 17, .un .not (.t 16), some (13, false)⟩, ⟨some 18, .pick (.t 13) (.c (.bool true)) (.t 17), none⟩, ⟨some 19, .mv (.t 18), none⟩, ⟨some 20, .faddr 0 (.t 5), some (19, false)⟩, ⟨some 21, .load none (.t 20), some (19, false)⟩, ⟨some 22, .faddr 0 (.t 7), some (19, false)⟩, ⟨some 23, .load none (.t 22), some (19, false)⟩, ⟨some 24, .bin .neq (.t 21) (.t 23), some (19, false)⟩, ⟨some 25, .pick (.t 19) (.c (.bool true)) (.t 24), none⟩, ⟨some 26, .mv (.t 25), none⟩, ⟨some 27, .faddr 2 (.t 5), some (26, false)⟩, ⟨some 28, .load none (.t 27), some (26, false)⟩, ⟨some 29, .faddr 2 (.t 7), some (26, false)⟩, ⟨some 30, .load none (.t 29), some (26, false)⟩, ⟨some 31, .bin .neq (.t 28) (.t 30), some (26, false)⟩, ⟨some 32, .pick (.t 26) (.c (.bool true)) (.t 31), none⟩])
  (.cond (.t 32) (.seq (.ops false [⟨some 8, .mv (.c (.bool false)), none⟩])
   (.ret))
   (.skip)))
  (.seq (.ops true [⟨some 33, .faddr 0 (.t 5), none⟩, ⟨some 34, .load none (.t 33), none⟩, ⟨some 35, .bin .neq (.t 34) (.c (.int .i64 3)), none⟩, ⟨some 36, .mv (.t 35), none⟩, ⟨some 37, .mv (.t 0), some (36, false)⟩, ⟨some 38, .faddr 1 (.t 5), some (36, false)⟩, ⟨some 39, .load none (.t 38), some (36, false)⟩, ⟨some 40, .iaddr 2 (.t 37) (.t 39), some (36, false)⟩, ⟨some 41, .faddr 0 (.t 40), some (36, false)⟩, ⟨some 42, .load none (.t 41), some (36, false)⟩, ⟨some 43, .mv (.t 2), some (36, false)⟩, ⟨some 44, .faddr 1 (.t 7), some (36, false)⟩, ⟨some 45, .load none (.t 44), some (36, false)⟩, ⟨some 46, .iaddr 2 (.t 43) (.t 45), some (36, false)⟩, ⟨some 47, .faddr 0 (.t 46), some (36, false)⟩, ⟨some 48, .load none (.t 47), some (36, false)⟩, ⟨some 49, .bin .eql (.t 42) (.t 48), some (36, false)⟩, ⟨some 50, .mv (.t 49), some (36, false)⟩, ⟨some 51, .mv (.t 0), some (50, true)⟩, ⟨some 52, .faddr 1 (.t 5), some (50, true)⟩, ⟨some 53, .load none (.t 52), some (50, true)⟩, ⟨some 54, .iaddr 2 (.t 51) (.t 53), some (50, true)⟩, ⟨some 55, .faddr 1 (.t 54), some (50, true)⟩, ⟨some 56, .load none (.t 55), some (50, true)⟩, ⟨some 57, .mv (.t 2), some (50, true)⟩, ⟨some 58, .faddr 1 (.t 7), some (50, true)⟩, ⟨some 59, .load none (.t 58), some (50, true)⟩, ⟨some 60, .iaddr 2 (.t 57) (.t 59), some (50, true)⟩, ⟨some 61, .faddr 1 (.t 60), some (50, true)⟩, ⟨some 62, .load none (.t 61), some (50, true)⟩, ⟨some 63, .callP 25 [(.t 56), (.t 62)], some (50, true)⟩, ⟨some 64, .pick (.t 50) (.t 63) (.c (.bool false)), some (36, false)⟩, ⟨some 65, .pick (.t 36) (.c (.bool true)) (.t 64), none⟩, ⟨some 8, .mv (.t 65), none⟩])
  (.ret))),
  [.t 8]⟩

/- noria/ty.Ctor -/
def d_ty_Ctor : DFun := ⟨
  .seq (.ops false [⟨some 3, .bref (.t 1), none⟩, ⟨some 4, .alloc [.int .i64 0], none⟩, ⟨some 5, .alloc [.int .i64 0], none⟩, ⟨some 6, .alloc [.bool false], none⟩])
  (.seq (.seq (.ops false [⟨some 9, .mv (.t 0), none⟩, ⟨some 10, .callP 26 [(.t 9)], none⟩])
  (.block 0 (.rangeF [3, 4, 5, 6] (some 3) (.t 10) [11, 12] (.seq (.ops false [⟨some 7, .alloc [.int .i64 0, .int .i64 0], none⟩, ⟨none, .store 2 (.t 7) (.t 11), none⟩])
    (.ops false [⟨some 8, .mv (.t 12), none⟩])) (.block 1 (.seq (.ops false [⟨some 13, .mv (.t 8), none⟩, ⟨some 14, .load none (.t 3), none⟩, ⟨some 15, .bin .eql (.t 13) (.t 14), none⟩])
     (.cond (.t 15) (.seq (.opsS [(7, 4), (18, 4)] [(0, ⟨some 16, .iaddrA 2 1 (.t 7) (.c (.int .i64 0)), none⟩), (1, ⟨some 17, .load none (.t 16), none⟩), (2, ⟨some 18, .iaddrA 2 1 (.t 7) (.c (.int .i64 1)), none⟩), (3, ⟨some 19, .load none (.t 18), none⟩), (4, ⟨none, .to 4 (.store 1 (.t 4) (.t 17)), none⟩), (5, ⟨none, .store 1 (.t 5) (.t 19), none⟩), (6, ⟨none, .store 1 (.t 6) (.c (.bool true)), none⟩)])
      (.ret))
      (.skip)))))))
  (.seq (.ops false [⟨none, .store 1 (.t 4) (.c (.int .i64 0)), none⟩, ⟨none, .store 1 (.t 5) (.c (.int .i64 0)), none⟩, ⟨none, .store 1 (.t 6) (.c (.bool false)), none⟩])
  (.ret))),
  [.cell 4 none, .cell 5 none, .cell 6 none]⟩

/- noria/noriaref05.Ctor -/
def d_noriaref05_Ctor : DFun := ⟨
  .seq (.ops false [⟨some 4, .mv (.c (.int .i64 0)), none⟩, ⟨some 5, .mv (.c (.int .i64 0)), none⟩, ⟨some 6, .mv (.c (.bool false)), none⟩])
  (.seq (.seq (.ops false [⟨some 7, .mv (.c (.int .i64 0)), none⟩])
  (.block 0 (.loop [0, 1, 7] (some 0) (.seq (.seq (.ops false [⟨some 9, .mv (.t 7), none⟩, ⟨some 10, .mv (.t 0), none⟩, ⟨some 11, .len (.t 10), none⟩, ⟨some 12, .bin .lss (.t 9) (.t 11), none⟩])
    (.cond (.t 12) (.skip)
     (.exit 0)))
    (.seq (.block 1 (.seq (.ops false [⟨some 8, .mv (.c (.int .i64 0)), none⟩])
     (.block 2 (.loop [0, 1, 7, 8] (some 0) (.seq (.seq (.ops false [⟨some 15, .mv (.t 8), none⟩, ⟨some 16, .mv (.t 0), none⟩, ⟨some 17, .mv (.t 7), none⟩, ⟨some 18, .iaddr 2 (.t 16) (.t 17), none⟩, ⟨some 19, .faddr 1 (.t 18), none⟩, ⟨some 20, .load none (.t 19), none⟩, ⟨some 21, .len (.t 20), none⟩, ⟨some 22, .bin .lss (.t 15) (.t 21), none⟩])
       (.cond (.t 22) (.skip)
        (.exit 2)))
       (.seq (.block 3 (.seq (.ops false [⟨some 25, .mv (.t 0), none⟩, ⟨some 26, .mv (.t 7), none⟩, ⟨some 27, .iaddr 2 (.t 25) (.t 26), none⟩, ⟨some 28, .faddr 1 (.t 27), none⟩, ⟨some 29, .load none (.t 28), none⟩, ⟨some 30, .mv (.t 8), none⟩, ⟨some 31, .iaddr 1 (.t 29) (.t 30), none⟩, ⟨some 32, .load none (.t 31), none⟩, ⟨some 33, .mv (.t 1), none⟩, ⟨some 34, .bin .eql (.t 32) (.t 33), none⟩])
        (.cond (.t 34) (.seq (.ops false [⟨some 35, .mv (.t 7), none⟩, ⟨some 36, .mv (.t 8), none⟩, ⟨some 4, .mv (.t 35), none⟩, ⟨some 5, .mv (.t 36), none⟩, ⟨some 6, .mv (.c (.bool true)), none⟩])
         (.ret))
         (.skip))))
       (.ops false [⟨some 23, .mv (.t 8), none⟩, ⟨some 24, .bin .add (.t 23) (.c (.int .i64 1)), none⟩, ⟨some 8, .mv (.t 24), none⟩])))))))
    (.ops false [⟨some 13, .mv (.t 7), none⟩, ⟨some 14, .bin .add (.t 13) (.c (.int .i64 1)), none⟩, ⟨some 7, .mv (.t 14), none⟩]))))))
  (.seq (.ops false [⟨some 4, .mv (.c (.int .i64 0)), none⟩, ⟨some 5, .mv (.c (.int .i64 0)), none⟩, ⟨some 6, .mv (.c (.bool false)), none⟩])
  (.ret))),
  [.t 4, .t 5, .t 6]⟩

/- noria/ty.Right -/
def d_ty_Right : DFun := ⟨
  .seq (.ops false [⟨some 3, .box (.t 1), none⟩, ⟨some 4, .mv (.c (.bool false)), none⟩])
  (.seq (.seq (.ops false [⟨some 5, .faddr 2 (.t 3), none⟩, ⟨some 6, .load none (.t 5), none⟩, ⟨some 7, .bin .lss (.t 6) (.c (.int .i64 0)), none⟩, ⟨some 8, .mv (.t 7), none⟩, ⟨some 9, .faddr 2 (.t 3), some (8, false)⟩, ⟨some 10, .load none (.t 9), some (8, false)⟩, ⟨some 11, .bin .gtr (.t 10) (.c (.int .i64 8)), some (8, false)⟩, ⟨some 12, .pick (.t 8) (.c (.bool true)) (.t 11), none⟩])
  (.cond (.t 12) (.seq (.ops false [⟨some 4, .mv (.c (.bool false)), none⟩])
   (.ret))
   (.skip)))
  (.seq (.seq (.ops false [⟨some 13, .faddr 0 (.t 3), none⟩, ⟨some 14, .load none (.t 13), none⟩])
  (.block 0 (.seq (.seq (.ops false [⟨some 16, .bin .eql (.t 14) (.c (.int .i64 1)), none⟩, ⟨some 15, .mv (.t 16), none⟩])
   (.cond (.t 15) (.skip)
    (.ops false [⟨some 17, .bin .eql (.t 14) (.c (.int .i64 2)), none⟩, ⟨some 15, .mv (.t 17), none⟩])))
   (.cond (.t 15) (.seq (.ops false [⟨some 18, .faddr 1 (.t 3), none⟩, ⟨some 19, .load none (.t 18), none⟩, ⟨some 20, .bin .eql (.t 19) (.c (.int .i64 0)), none⟩, ⟨some 4, .mv (.t 20), none⟩])
    (.ret))
    (.seq (.ops false [⟨some 22, .bin .eql (.t 14) (.c (.int .i64 3)), none⟩, ⟨some 21, .mv (.t 22), none⟩])
    (.cond (.t 21) (.seq (.ops false [⟨some 23, .faddr 1 (.t 3), none⟩, ⟨some 24, .load none (.t 23), none⟩, ⟨some 25, .bin .geq (.t 24) (.c (.int .i64 0)), none⟩, ⟨some 26, .mv (.t 25), none⟩, ⟨some 27, .faddr 1 (.t 3), some (26, true)⟩, ⟨some 28, .load none (.t 27), some (26, true)⟩, ⟨some 29, .mv (.t 0), some (26, true)⟩, ⟨some 30, .len (.t 29), some (26, true)⟩, ⟨some 31, .bin .lss (.t 28) (.t 30), some (26, true)⟩, ⟨some 32, .pick (.t 26) (.t 31) (.c (.bool false)), none⟩, ⟨some 4, .mv (.t 32), none⟩])
     (.ret))
     (.skip)))))))
  (.seq (.ops false [⟨some 4, .mv (.c (.bool false)), none⟩])
  (.ret)))),
  [.t 4]⟩

/- noria/noriaref05.Right -/
def d_noriaref05_Right : DFun := ⟨
  .seq (.ops false [⟨some 3, .box (.t 1), none⟩, ⟨some 4, .mv (.c (.bool false)), none⟩])
  (.seq (.seq (.ops false [⟨some 5, .faddr 0 (.t 3), none⟩, ⟨some 6, .load none (.t 5), none⟩, ⟨some 7, .bin .lss (.t 6) (.c (.int .i64 1)), none⟩, ⟨some 8, .mv (.t 7), none⟩, ⟨some 9, .faddr 0 (.t 3), some (8, false)⟩, ⟨some 10, .load none (.t 9), some (8, false)⟩, ⟨some 11, .bin .gtr (.t 10) (.c (.int .i64 3)), some (8, false)⟩, ⟨some 12, .pick (.t 8) (.c (.bool true)) (.t 11), none⟩, ⟨some 13, .mv (.t 12), none⟩, ⟨some 14, .faddr 2 (.t 3), some (13, false)⟩, ⟨some 15, .load none (.t 14), some (13, false)⟩, ⟨some 16, .bin .lss (.t 15) (.c (.int .i64 0)), some (13, false)⟩, ⟨some 17, .pick (.t 13) (.c (.bool true)) (.t 16), none⟩, ⟨some 18, .mv (.t 17), none⟩, ⟨some 19, .faddr 2 (.t 3), some (18, false)⟩, ⟨some 20, .load none (.t 19), some (18, false)⟩, ⟨some 21, .bin .gtr (.t 20) (.c (.int .i64 8)), some (18, false)⟩, ⟨some 22, .pick (.t 18) (.c (.bool true)) (.t 21), none⟩])
  (.cond (.t 22) (.seq (.ops false [⟨some 4, .mv (.c (.bool false)), none⟩])
   (.ret))
   (.skip)))
  (.seq (.seq (.ops false [⟨some 23, .faddr 0 (.t 3), none⟩, ⟨some 24, .load none (.t 23), none⟩, ⟨some 25, .bin .eql (.t 24) (.c (.int .i64 3)), none⟩])
  (.cond (.t 25) (.seq (.ops false [⟨some 26, .faddr 1 (.t 3), none⟩, ⟨some 27, .load none (.t 26), none⟩, ⟨some 28, .bin .geq (.t 27) (.c (.int .i64 0)), none⟩, ⟨some 29, .mv (.t 28), none⟩, ⟨some 30, .faddr 1 (.t 3), some (29, true)⟩, ⟨some 31, .load none (.t 30), some (29, true)⟩, ⟨some 32, .mv (.t 0), some (29, true)⟩, ⟨some 33, .len (.t 32), some (29, true)⟩, ⟨some 34, .bin .lss (.t 31) (.t 33), some (29, true)⟩, ⟨some 35, .pick (.t 29) (.t 34) (.c (.bool false)), none⟩, ⟨some 4, .mv (.t 35), none⟩])
   (.ret))
   (.skip)))
  (.seq (.ops false [⟨some 36, .faddr 1 (.t 3), none⟩, ⟨some 37, .load none (.t 36), none⟩, ⟨some 38, .bin .eql (.t 37) (.c (.int .i64 0)), none⟩, ⟨some 4, .mv (.t 38), none⟩])
  (.ret)))),
  [.t 4]⟩

/- noria/ty.Cells -/
def d_ty_Cells : DFun := ⟨
  .seq (.ops false [⟨some 1, .box (.t 0), none⟩, ⟨some 2, .mv (.c (.int .i64 0)), none⟩])
  (.seq (.ops false [⟨some 3, .faddr 2 (.t 1), none⟩, ⟨some 4, .load none (.t 3), none⟩, ⟨some 5, .minmax true (.t 4) (.c (.int .i64 1)), none⟩, ⟨some 6, .minmax false (.t 5) (.c (.int .i64 8)), none⟩, ⟨some 2, .mv (.t 6), none⟩])
  (.ret)),
  [.t 2]⟩

/- noria/noriaref05.Cells -/
def d_noriaref05_Cells : DFun := ⟨
  .seq (.ops false [⟨some 1, .box (.t 0), none⟩, ⟨some 2, .mv (.c (.int .i64 0)), none⟩])
  (.seq (.seq (.ops false [⟨some 3, .faddr 2 (.t 1), none⟩, ⟨some 4, .load none (.t 3), none⟩, ⟨some 5, .bin .lss (.t 4) (.c (.int .i64 1)), none⟩])
  (.cond (.t 5) (.seq (.ops false [⟨some 2, .mv (.c (.int .i64 1)), none⟩])
   (.ret))
   (.skip)))
  (.seq (.seq (.ops false [⟨some 6, .faddr 2 (.t 1), none⟩, ⟨some 7, .load none (.t 6), none⟩, ⟨some 8, .bin .gtr (.t 7) (.c (.int .i64 8)), none⟩])
  (.cond (.t 8) (.seq (.ops false [⟨some 2, .mv (.c (.int .i64 8)), none⟩])
   (.ret))
   (.skip)))
  (.seq (.ops false [⟨some 9, .faddr 2 (.t 1), none⟩, ⟨some 10, .load none (.t 9), none⟩, ⟨some 2, .mv (.t 10), none⟩])
  (.ret)))),
  [.t 2]⟩

/- noria/ty.One -/
def d_ty_One : DFun := ⟨
  .seq (.ops false [⟨some 1, .box (.t 0), none⟩, ⟨some 2, .alloc [.int .i64 0, .int .i64 0, .int .i64 0], none⟩])
  (.seq (.ops false [⟨some 3, .faddr 2 (.t 1), none⟩, ⟨none, .store 1 (.t 3) (.c (.int .i64 0)), none⟩])
  (.seq (.ops false [⟨some 4, .load (some 3) (.t 1), none⟩, ⟨none, .store 3 (.t 2) (.t 4), none⟩])
  (.ret))),
  [.cell 2 (some 3)]⟩

/- noria/noriaref05.One -/
def d_noriaref05_One : DFun := ⟨
  .seq (.ops false [⟨some 1, .box (.t 0), none⟩, ⟨some 2, .alloc [.int .i64 0, .int .i64 0, .int .i64 0], none⟩])
  (.seq (.ops false [⟨some 3, .faddr 2 (.t 1), none⟩, ⟨none, .store 1 (.t 3) (.c (.int .i64 0)), none⟩])
  (.seq (.ops false [⟨some 4, .load (some 3) (.t 1), none⟩, ⟨none, .store 3 (.t 2) (.t 4), none⟩])
  (.ret))),
  [.cell 2 (some 3)]⟩

/- noria/ty.Text -/
def d_ty_Text : DFun := ⟨
  .seq (.ops false [⟨some 3, .bref (.t 1), none⟩, ⟨some 4, .mv (.c (.str [])), none⟩])
  (.seq (.seq (.ops false [⟨some 6, .mv (.t 0), none⟩, ⟨some 7, .load (some 3) (.t 3), none⟩, ⟨some 8, .callP 13 [(.t 6), (.t 7)], none⟩, ⟨some 9, .un .not (.t 8), none⟩])
  (.cond (.t 9) (.seq (.ops false [⟨some 4, .mv (.c (.str [])), none⟩])
   (.ret))
   (.skip)))
  (.seq (.ops false [⟨some 5, .mv (.c (.str [105, 110, 116])), none⟩])
  (.seq (.seq (.ops false [⟨some 10, .faddr 0 (.t 3), none⟩, ⟨some 11, .load none (.t 10), none⟩])
  (.block 0 (.seq (.ops false [⟨some 13, .bin .eql (.t 11) (.c (.int .i64 2)), none⟩, ⟨some 12, .mv (.t 13), none⟩])
   (.cond (.t 12) (.ops false [⟨some 5, .mv (.c (.str [98, 111, 111, 108])), none⟩])
    (.seq (.ops false [⟨some 15, .bin .eql (.t 11) (.c (.int .i64 3)), none⟩, ⟨some 14, .mv (.t 15), none⟩])
    (.cond (.t 14) (.ops false [⟨some 16, .mv (.t 0), none⟩, ⟨some 17, .faddr 1 (.t 3), none⟩, ⟨some 18, .load none (.t 17), none⟩, ⟨some 19, .iaddr 2 (.t 16) (.t 18), none⟩, ⟨some 20, .faddr 0 (.t 19), none⟩, ⟨some 21, .load none (.t 20), none⟩, ⟨some 5, .mv (.t 21), none⟩])
     (.skip)))))))
  (.seq (.seq (.ops false [⟨some 22, .faddr 2 (.t 3), none⟩, ⟨some 23, .load none (.t 22), none⟩, ⟨some 24, .bin .gtr (.t 23) (.c (.int .i64 0)), none⟩])
  (.cond (.t 24) (.ops false [⟨some 25, .mv (.t 5), none⟩, ⟨some 26, .faddr 2 (.t 3), none⟩, ⟨some 27, .load none (.t 26), none⟩, ⟨some 28, .callP 27 [(.t 27)], none⟩, ⟨some 29, .bin .add (.c (.str [91])) (.t 28), none⟩, ⟨some 30, .bin .add (.t 29) (.c (.str [93])), none⟩, ⟨some 31, .bin .add (.t 25) (.t 30), none⟩, ⟨some 5, .mv (.t 31), none⟩])
   (.skip)))
  (.seq (.ops false [⟨some 32, .mv (.t 5), none⟩, ⟨some 4, .mv (.t 32), none⟩])
  (.ret)))))),
  [.t 4]⟩

/- noria/noriaref05.Text -/
def d_noriaref05_Text : DFun := ⟨
  .seq (.ops false [⟨some 3, .bref (.t 1), none⟩, ⟨some 4, .mv (.c (.str [])), none⟩])
  (.seq (.seq (.ops false [⟨some 6, .mv (.t 0), none⟩, ⟨some 7, .load (some 3) (.t 3), none⟩, ⟨some 8, .callP 14 [(.t 6), (.t 7)], none⟩, ⟨some 9, .un .not (.t 8), none⟩])
  (.cond (.t 9) (.seq (.ops false [⟨some 4, .mv (.c (.str [])), none⟩])
   (.ret))
   (.skip)))
  (.seq (.ops false [⟨some 5, .mv (.c (.str [105, 110, 116])), none⟩])
  (.seq (.seq (.ops false [⟨some 10, .faddr 0 (.t 3), none⟩, ⟨some 11, .load none (.t 10), none⟩, ⟨some 12, .bin .eql (.t 11) (.c (.int .i64 2)), none⟩])
  (.cond (.t 12) (.ops false [⟨some 5, .mv (.c (.str [98, 111, 111, 108])), none⟩])
   (.skip)))
  (.seq (.seq (.ops false [⟨some 13, .faddr 0 (.t 3), none⟩, ⟨some 14, .load none (.t 13), none⟩, ⟨some 15, .bin .eql (.t 14) (.c (.int .i64 3)), none⟩])
  (.cond (.t 15) (.ops false [⟨some 16, .mv (.t 0), none⟩, ⟨some 17, .faddr 1 (.t 3), none⟩, ⟨some 18, .load none (.t 17), none⟩, ⟨some 19, .iaddr 2 (.t 16) (.t 18), none⟩, ⟨some 20, .faddr 0 (.t 19), none⟩, ⟨some 21, .load none (.t 20), none⟩, ⟨some 5, .mv (.t 21), none⟩])
   (.skip)))
  (.seq (.seq (.ops false [⟨some 22, .faddr 2 (.t 3), none⟩, ⟨some 23, .load none (.t 22), none⟩, ⟨some 24, .bin .gtr (.t 23) (.c (.int .i64 0)), none⟩])
  (.cond (.t 24) (.ops false [⟨some 25, .mv (.t 5), none⟩, ⟨some 26, .bin .add (.t 25) (.c (.str [91])), none⟩, ⟨some 27, .faddr 2 (.t 3), none⟩, ⟨some 28, .load none (.t 27), none⟩, ⟨some 29, .bin .add (.c (.int .i64 48)) (.t 28), none⟩, ⟨some 30, .conv .u8 (.t 29), none⟩, ⟨some 31, .bslice true [.int .u8 0] [(some (.t 30))], none⟩, ⟨some 32, .b2s (.t 31), none⟩, ⟨some 33, .bin .add (.t 26) (.t 32), none⟩, ⟨some 34, .bin .add (.t 33) (.c (.str [93])), none⟩, ⟨some 5, .mv (.t 34), none⟩])
   (.skip)))
  (.seq (.ops false [⟨some 35, .mv (.t 5), none⟩, ⟨some 4, .mv (.t 35), none⟩])
  (.ret))))))),
  [.t 4]⟩

/- noria/norialaw05.num -/
def d_norialaw05_num : DFun := ⟨
  .seq (.ops false [⟨some 2, .mv (.c (.int .i64 0)), none⟩])
  (.seq (.ops false [⟨some 3, .mv (.t 0), none⟩, ⟨some 2, .mv (.t 3), none⟩])
  (.ret)),
  [.t 2]⟩

/- noria/ty.Enums -/
def d_ty_Enums : DFun := ⟨
  .seq (.ops false [⟨some 2, .mv (.c (.int .i64 0)), none⟩])
  (.seq (.seq (.ops false [⟨some 10, .mv (.t 0), none⟩, ⟨some 11, .callP 28 [(.t 10)], none⟩])
  (.cond (.t 11) (.seq (.ops false [⟨some 2, .mv (.c (.int .i64 4)), none⟩])
   (.ret))
   (.skip)))
  (.seq (.ops false [⟨some 3, .mkown 1 (.c (.nil)), none⟩, ⟨some 4, .alloc [.nil], none⟩])
  (.seq (.ops false [⟨some 5, .alloc [.bool false], none⟩, ⟨none, .store 1 (.t 5) (.c (.bool true)), none⟩])
  (.seq (.seq (.ops false [⟨some 12, .mv (.t 0), none⟩, ⟨some 13, .len (.t 12), none⟩, ⟨some 14, .mv (.c (.int .i64 0)), none⟩])
  (.block 0 (.loop [0, 3, 4, 5, 9, 12, 13, 14, 39] (some 3) (.seq (.ops false [⟨some 15, .bin .lss (.t 14) (.t 13), none⟩])
    (.seq (.cond (.t 15) (.skip)
     (.exit 0))
    (.seq (.block 1 (.seq (.ops false [⟨some 16, .iaddr 2 (.t 12) (.t 14), none⟩, ⟨some 17, .load (some 2) (.t 16), none⟩, ⟨some 7, .alloc [.str [], .nil], none⟩, ⟨none, .store 2 (.t 7) (.t 17), none⟩])
     (.seq (.ops false [⟨some 18, .mv (.t 3), none⟩, ⟨some 19, .faddr 0 (.t 7), none⟩, ⟨some 20, .load none (.t 19), none⟩, ⟨some 21, .bslice true [.str []] [(some (.t 20))], none⟩, ⟨some 22, .append 1 (.t 18) (.t 21), none⟩, ⟨some 3, .mv (.t 22), none⟩])
     (.ops false [⟨some 23, .load none (.t 5), none⟩, ⟨some 24, .mv (.t 23), none⟩, ⟨some 25, .faddr 0 (.t 7), some (24, true)⟩, ⟨some 26, .load none (.t 25), some (24, true)⟩, ⟨some 27, .callP 29 [(.t 26)], some (24, true)⟩, ⟨some 28, .pick (.t 24) (.t 27) (.c (.bool false)), none⟩, ⟨some 29, .mv (.t 28), none⟩, ⟨some 30, .faddr 1 (.t 7), some (29, true)⟩, ⟨some 31, .load none (.t 30), some (29, true)⟩, ⟨some 32, .len (.t 31), some (29, true)⟩, ⟨some 33, .bin .gtr (.t 32) (.c (.int .i64 0)), some (29, true)⟩, ⟨some 34, .pick (.t 29) (.t 33) (.c (.bool false)), none⟩, ⟨none, .store 1 (.t 5) (.t 34), none⟩]))))
    (.ops false [⟨some 35, .bin .add (.t 14) (.c (.int .i64 1)), none⟩, ⟨some 14, .mv (.t 35), none⟩])))))))
  (.gown 4 0 1 (.seq (.seq (.ops false [⟨some 36, .mv (.t 0), none⟩, ⟨some 37, .callP 26 [(.t 36)], none⟩])
  (.block 2 (.rangeF [3, 4, 5] (some 4) (.t 37) [38, 39] (.ops false [⟨some 9, .mv (.t 39), none⟩]) (.block 3 (.seq (.ops false [⟨some 40, .load none (.t 4), none⟩, ⟨some 41, .mv (.t 9), none⟩, ⟨some 42, .bslice true [.str []] [(some (.t 41))], none⟩, ⟨some 43, .append 1 (.t 40) (.t 42), none⟩, ⟨none, .store 1 (.t 4) (.t 43), none⟩])
     (.ops false [⟨some 44, .load none (.t 5), none⟩, ⟨some 45, .mv (.t 44), none⟩, ⟨some 46, .mv (.t 9), some (45, true)⟩, ⟨some 47, .callP 30 [(.t 46)], some (45, true)⟩, ⟨some 48, .pick (.t 45) (.t 47) (.c (.bool false)), none⟩, ⟨none, .store 1 (.t 5) (.t 48), none⟩]))))))
  (.seq (.block 4 (.seq (.ops false [⟨some 50, .load none (.t 5), none⟩, ⟨some 51, .un .not (.t 50), none⟩, ⟨some 49, .mv (.t 51), none⟩])
   (.cond (.t 49) (.seq (.ops false [⟨some 2, .mv (.c (.int .i64 1)), none⟩])
    (.ret))
    (.seq (.ops false [⟨some 53, .mv (.t 3), none⟩, ⟨some 54, .callP 31 [(.t 53)], none⟩, ⟨some 55, .un .not (.t 54), none⟩, ⟨some 56, .mv (.t 55), none⟩, ⟨some 57, .load none (.t 4), some (56, false)⟩, ⟨some 58, .callP 31 [(.t 57)], some (56, false)⟩, ⟨some 59, .un .not (.t 58), some (56, false)⟩, ⟨some 60, .pick (.t 56) (.c (.bool true)) (.t 59), none⟩, ⟨some 52, .mv (.t 60), none⟩])
    (.cond (.t 52) (.seq (.ops false [⟨some 2, .mv (.c (.int .i64 6)), none⟩])
     (.ret))
     (.skip))))))
  (.seq (.ops false [⟨some 2, .mv (.c (.int .i64 0)), none⟩])
  (.ret))))))))),
  [.t 2]⟩

/- noria/noriaref05.Enums -/
def d_noriaref05_Enums : DFun := ⟨
  .seq (.ops false [⟨some 2, .mv (.c (.int .i64 0)), none⟩])
  (.seq (.ops false [⟨some 8, .bslice false [.str []] [], none⟩, ⟨some 9, .bslice false [.str []] [], none⟩, ⟨some 3, .mv (.t 8), none⟩, ⟨some 4, .mv (.t 9), none⟩])
  (.seq (.seq (.ops false [⟨some 10, .mv (.t 0), none⟩, ⟨some 11, .len (.t 10), none⟩, ⟨some 12, .bin .gtr (.t 11) (.c (.int .i64 4)), none⟩])
  (.cond (.t 12) (.seq (.ops false [⟨some 2, .mv (.c (.int .i64 4)), none⟩])
   (.ret))
   (.skip)))
  (.seq (.seq (.ops false [⟨some 5, .mv (.c (.int .i64 0)), none⟩])
  (.block 0 (.loop [0, 3, 4, 5] (some 2) (.seq (.seq (.ops false [⟨some 13, .mv (.t 5), none⟩, ⟨some 14, .mv (.t 0), none⟩, ⟨some 15, .len (.t 14), none⟩, ⟨some 16, .bin .lss (.t 13) (.t 15), none⟩])
    (.cond (.t 16) (.skip)
     (.exit 0)))
    (.seq (.block 1 (.seq (.seq (.ops false [⟨some 19, .mv (.t 0), none⟩, ⟨some 20, .mv (.t 5), none⟩, ⟨some 21, .iaddr 2 (.t 19) (.t 20), none⟩, ⟨some 22, .faddr 1 (.t 21), none⟩, ⟨some 23, .load none (.t 22), none⟩, ⟨some 24, .len (.t 23), none⟩, ⟨some 25, .bin .gtr (.t 24) (.c (.int .i64 6)), none⟩])
     (.cond (.t 25) (.seq (.ops false [⟨some 2, .mv (.c (.int .i64 4)), none⟩])
      (.ret))
      (.skip)))
     (.seq (.ops false [⟨some 26, .mv (.t 3), none⟩, ⟨some 27, .mv (.t 0), none⟩, ⟨some 28, .mv (.t 5), none⟩, ⟨some 29, .iaddr 2 (.t 27) (.t 28), none⟩, ⟨some 30, .faddr 0 (.t 29), none⟩, ⟨some 31, .load none (.t 30), none⟩, ⟨some 32, .bslice true [.str []] [(some (.t 31))], none⟩, ⟨some 33, .append 1 (.t 26) (.t 32), none⟩, ⟨some 3, .mv (.t 33), none⟩])
     (.ops false [⟨some 34, .mv (.t 4), none⟩, ⟨some 35, .mv (.t 0), none⟩, ⟨some 36, .mv (.t 5), none⟩, ⟨some 37, .iaddr 2 (.t 35) (.t 36), none⟩, ⟨some 38, .faddr 1 (.t 37), none⟩, ⟨some 39, .load none (.t 38), none⟩, ⟨some 40, .append 1 (.t 34) (.t 39), none⟩, ⟨some 4, .mv (.t 40), none⟩]))))
    (.ops false [⟨some 17, .mv (.t 5), none⟩, ⟨some 18, .bin .add (.t 17) (.c (.int .i64 1)), none⟩, ⟨some 5, .mv (.t 18), none⟩]))))))
  (.seq (.seq (.ops false [⟨some 6, .mv (.c (.int .i64 0)), none⟩])
  (.block 2 (.loop [0, 3, 4, 6] (some 2) (.seq (.seq (.ops false [⟨some 41, .mv (.t 6), none⟩, ⟨some 42, .mv (.t 0), none⟩, ⟨some 43, .len (.t 42), none⟩, ⟨some 44, .bin .lss (.t 41) (.t 43), none⟩])
    (.cond (.t 44) (.skip)
     (.exit 2)))
    (.seq (.block 3 (.seq (.ops false [⟨some 47, .mv (.t 0), none⟩, ⟨some 48, .mv (.t 6), none⟩, ⟨some 49, .iaddr 2 (.t 47) (.t 48), none⟩, ⟨some 50, .faddr 0 (.t 49), none⟩, ⟨some 51, .load none (.t 50), none⟩, ⟨some 52, .callP 32 [(.t 51)], none⟩, ⟨some 53, .un .not (.t 52), none⟩, ⟨some 54, .mv (.t 53), none⟩, ⟨some 55, .mv (.t 0), some (54, false)⟩, ⟨some 56, .mv (.t 6), some (54, false)⟩, ⟨some 57, .iaddr 2 (.t 55) (.t 56), some (54, false)⟩, ⟨some 58, .faddr 1 (.t 57), some (54, false)⟩, ⟨some 59, .load none (.t 58), some (54, false)⟩, ⟨some 60, .len (.t 59), some (54, false)⟩, ⟨some 61, .bin .eql (.t 60) (.c (.int .i64 0)), some (54, false)⟩, ⟨some 62, .pick (.t 54) (.c (.bool true)) (.t 61), none⟩])
     (.cond (.t 62) (.seq (.ops false [⟨some 2, .mv (.c (.int .i64 1)), none⟩])
      (.ret))
      (.skip))))
    (.ops false [⟨some 45, .mv (.t 6), none⟩, ⟨some 46, .bin .add (.t 45) (.c (.int .i64 1)), none⟩, ⟨some 6, .mv (.t 46), none⟩]))))))
  (.seq (.seq (.ops false [⟨some 7, .mv (.c (.int .i64 0)), none⟩])
  (.block 4 (.loop [3, 4, 7] (some 2) (.seq (.seq (.ops false [⟨some 63, .mv (.t 7), none⟩, ⟨some 64, .mv (.t 4), none⟩, ⟨some 65, .len (.t 64), none⟩, ⟨some 66, .bin .lss (.t 63) (.t 65), none⟩])
    (.cond (.t 66) (.skip)
     (.exit 4)))
    (.seq (.block 5 (.seq (.ops false [⟨some 69, .mv (.t 4), none⟩, ⟨some 70, .mv (.t 7), none⟩, ⟨some 71, .iaddr 1 (.t 69) (.t 70), none⟩, ⟨some 72, .load none (.t 71), none⟩, ⟨some 73, .callP 33 [(.t 72)], none⟩, ⟨some 74, .un .not (.t 73), none⟩])
     (.cond (.t 74) (.seq (.ops false [⟨some 2, .mv (.c (.int .i64 1)), none⟩])
      (.ret))
      (.skip))))
    (.ops false [⟨some 67, .mv (.t 7), none⟩, ⟨some 68, .bin .add (.t 67) (.c (.int .i64 1)), none⟩, ⟨some 7, .mv (.t 68), none⟩]))))))
  (.seq (.seq (.ops false [⟨some 75, .mv (.t 3), none⟩, ⟨some 76, .callP 34 [(.t 75)], none⟩, ⟨some 77, .un .not (.t 76), none⟩, ⟨some 78, .mv (.t 77), none⟩, ⟨some 79, .mv (.t 4), some (78, false)⟩, ⟨some 80, .callP 34 [(.t 79)], some (78, false)⟩, ⟨some 81, .un .not (.t 80), some (78, false)⟩, ⟨some 82, .pick (.t 78) (.c (.bool true)) (.t 81), none⟩])
  (.cond (.t 82) (.seq (.ops false [⟨some 2, .mv (.c (.int .i64 6)), none⟩])
   (.ret))
   (.skip)))
  (.seq (.ops false [⟨some 2, .mv (.c (.int .i64 0)), none⟩])
  (.ret)))))))),
  [.t 2]⟩

/- slices.Equal[[]string,string] -/
def d_slices_Equal_string_string : DFun := ⟨
  .seq (.ops false [⟨some 4, .mv (.c (.bool false)), none⟩])
  (.seq (.seq (.ops false [⟨some 6, .mv (.t 0), none⟩, ⟨some 7, .len (.t 6), none⟩, ⟨some 8, .mv (.t 1), none⟩, ⟨some 9, .len (.t 8), none⟩, ⟨some 10, .bin .neq (.t 7) (.t 9), none⟩])
  (.cond (.t 10) (.seq (.ops false [⟨some 4, .mv (.c (.bool false)), none⟩])
   (.ret))
   (.skip)))
  (.seq (.seq (.ops false [⟨some 11, .mv (.t 0), none⟩, ⟨some 12, .len (.t 11), none⟩, ⟨some 13, .mv (.c (.int .i64 0)), none⟩])
  (.block 0 (.loop [0, 1, 12, 13] (some 0) (.seq (.ops false [⟨some 14, .bin .lss (.t 13) (.t 12), none⟩])
    (.seq (.cond (.t 14) (.skip)
     (.exit 0))
    (.seq (.block 1 (.seq (.ops false [⟨some 15, .mv (.t 13), none⟩, ⟨some 5, .mv (.t 15), none⟩])
     (.seq (.ops true [⟨some 16, .mv (.t 0), none⟩, ⟨some 17, .mv (.t 5), none⟩, ⟨some 18, .iaddr 1 (.t 16) (.t 17), none⟩, ⟨some 19, .load none (.t 18), none⟩, ⟨some 20, .mv (.t 1), none⟩, ⟨some 21, .mv (.t 5), none⟩, ⟨some 22, .iaddr 1 (.t 20) (.t 21), none⟩, ⟨some 23, .load none (.t 22), none⟩, ⟨some 24, .bin .neq (.t 19) (.t 23), none⟩])
     (.cond (.t 24) (.seq (.ops false [⟨some 4, .mv (.c (.bool false)), none⟩])
      (.ret))
      (.skip)))))
    (.ops false [⟨some 25, .bin .add (.t 13) (.c (.int .i64 1)), none⟩, ⟨some 13, .mv (.t 25), none⟩])))))))
  (.seq (.ops false [⟨some 4, .mv (.c (.bool true)), none⟩])
  (.ret)))),
  [.t 4]⟩

/- noria/noriaref01.Names -/
def d_noriaref01_Names : DFun := ⟨
  .seq (.ops false [⟨some 4, .mv (.c (.bool false)), none⟩])
  (.seq (.seq (.ops false [⟨some 6, .mv (.t 0), none⟩, ⟨some 7, .len (.t 6), none⟩, ⟨some 8, .mv (.t 1), none⟩, ⟨some 9, .len (.t 8), none⟩, ⟨some 10, .bin .neq (.t 7) (.t 9), none⟩])
  (.cond (.t 10) (.seq (.ops false [⟨some 4, .mv (.c (.bool false)), none⟩])
   (.ret))
   (.skip)))
  (.seq (.seq (.ops false [⟨some 5, .mv (.c (.int .i64 0)), none⟩])
  (.block 0 (.loop [0, 1, 5] (some 0) (.seq (.seq (.ops false [⟨some 11, .mv (.t 5), none⟩, ⟨some 12, .mv (.t 0), none⟩, ⟨some 13, .len (.t 12), none⟩, ⟨some 14, .bin .lss (.t 11) (.t 13), none⟩])
    (.cond (.t 14) (.skip)
     (.exit 0)))
    (.seq (.block 1 (.seq (.ops true [⟨some 17, .mv (.t 0), none⟩, ⟨some 18, .mv (.t 5), none⟩, ⟨some 19, .iaddr 1 (.t 17) (.t 18), none⟩, ⟨some 20, .load none (.t 19), none⟩, ⟨some 21, .mv (.t 1), none⟩, ⟨some 22, .mv (.t 5), none⟩, ⟨some 23, .iaddr 1 (.t 21) (.t 22), none⟩, ⟨some 24, .load none (.t 23), none⟩, ⟨some 25, .bin .neq (.t 20) (.t 24), none⟩])
     (.cond (.t 25) (.seq (.ops false [⟨some 4, .mv (.c (.bool false)), none⟩])
      (.ret))
      (.skip))))
    (.ops false [⟨some 15, .mv (.t 5), none⟩, ⟨some 16, .bin .add (.t 15) (.c (.int .i64 1)), none⟩, ⟨some 5, .mv (.t 16), none⟩]))))))
  (.seq (.ops false [⟨some 4, .mv (.c (.bool true)), none⟩])
  (.ret)))),
  [.t 4]⟩

/- noria/ty.ctors -/
def d_ty_ctors : DFun := ⟨
  .seq (.ops false [⟨some 1, .bref (.t 0), none⟩, ⟨some 2, .mv (.c (.undef)), none⟩])
  (.seq (.ops false [⟨some 3, .mkfun 35 [(.t 1)], none⟩, ⟨some 2, .mv (.t 3), none⟩])
  (.ret)),
  [.t 2]⟩

/- strconv.Itoa -/
def d_strconv_Itoa : DFun := ⟨
  .seq (.ops false [⟨some 2, .mv (.c (.str [])), none⟩])
  (.seq (.ops false [⟨some 3, .mv (.t 0), none⟩, ⟨some 4, .callP 36 [(.t 3)], none⟩, ⟨some 2, .mv (.t 4), none⟩])
  (.ret)),
  [.t 2]⟩

/- noria/ty.great -/
def d_ty_great : DFun := ⟨
  .seq (.ops false [⟨some 2, .mv (.c (.bool false)), none⟩])
  (.seq (.ops false [⟨some 3, .mv (.t 0), none⟩, ⟨some 4, .len (.t 3), none⟩, ⟨some 5, .bin .gtr (.t 4) (.c (.int .i64 4)), none⟩, ⟨some 6, .mv (.t 5), none⟩, ⟨some 7, .mv (.t 0), some (6, false)⟩, ⟨some 8, .callP 37 [(.t 7), (.c (.clo 38 []))], some (6, false)⟩, ⟨some 9, .pick (.t 6) (.c (.bool true)) (.t 8), none⟩, ⟨some 2, .mv (.t 9), none⟩])
  (.ret)),
  [.t 2]⟩

/- noria/ident.Low -/
def d_ident_Low : DFun := ⟨
  .seq (.ops false [⟨some 2, .mv (.c (.bool false)), none⟩])
  (.seq (.ops false [⟨some 3, .mv (.t 0), none⟩, ⟨some 4, .callP 39 [(.t 3), (.c (.clo 40 []))], none⟩, ⟨some 5, .mv (.t 4), none⟩, ⟨some 6, .mv (.t 0), some (5, true)⟩, ⟨some 7, .callP 41 [(.t 6)], some (5, true)⟩, ⟨some 8, .un .not (.t 7), some (5, true)⟩, ⟨some 9, .pick (.t 5) (.t 8) (.c (.bool false)), none⟩, ⟨some 2, .mv (.t 9), none⟩])
  (.ret)),
  [.t 2]⟩

/- noria/ident.High -/
def d_ident_High : DFun := ⟨
  .seq (.ops false [⟨some 2, .mv (.c (.bool false)), none⟩])
  (.seq (.ops false [⟨some 3, .mv (.t 0), none⟩, ⟨some 4, .callP 39 [(.t 3), (.c (.clo 42 []))], none⟩, ⟨some 2, .mv (.t 4), none⟩])
  (.ret)),
  [.t 2]⟩

/- noria/ident.Once -/
def d_ident_Once : DFun := ⟨
  .seq (.ops false [⟨some 2, .mv (.c (.bool false)), none⟩])
  (.seq (.ops false [⟨some 6, .bad, none⟩, ⟨some 3, .mv (.t 6), none⟩])
  (.seq (.seq (.ops false [⟨some 7, .mv (.t 0), none⟩, ⟨some 8, .len (.t 7), none⟩, ⟨some 9, .mv (.c (.int .i64 0)), none⟩])
  (.block 0 (.loop [3, 7, 8, 9] (some 0) (.seq (.ops false [⟨some 10, .bin .lss (.t 9) (.t 8), none⟩])
    (.seq (.cond (.t 10) (.skip)
     (.exit 0))
    (.seq (.block 1 (.seq (.ops false [⟨some 11, .iaddr 1 (.t 7) (.t 9), none⟩, ⟨some 12, .load none (.t 11), none⟩, ⟨some 5, .mv (.t 12), none⟩])
     (.seq (.seq (.ops false [⟨some 13, .mv (.t 3), none⟩, ⟨some 14, .mv (.t 5), none⟩, ⟨some 15, .bad, none⟩, ⟨some 16, .bin .gtr (.t 15) (.c (.int .i64 0)), none⟩])
     (.cond (.t 16) (.seq (.ops false [⟨some 2, .mv (.c (.bool false)), none⟩])
      (.ret))
      (.skip)))
     (.ops false [⟨some 17, .mv (.t 3), none⟩, ⟨some 18, .mv (.t 5), none⟩, ⟨some 19, .bad, none⟩, ⟨some 20, .bin .add (.t 19) (.c (.int .i64 1)), none⟩, ⟨none, .bad, none⟩]))))
    (.ops false [⟨some 21, .bin .add (.t 9) (.c (.int .i64 1)), none⟩, ⟨some 9, .mv (.t 21), none⟩])))))))
  (.seq (.ops false [⟨some 2, .mv (.c (.bool true)), none⟩])
  (.ret)))),
  [.t 2]⟩

/- noria/noriaref04.Low -/
def d_noriaref04_Low : DFun := ⟨
  .seq (.ops false [⟨some 2, .mv (.c (.bool false)), none⟩])
  (.seq (.ops false [⟨some 3, .mv (.t 0), none⟩, ⟨some 4, .callP 43 [(.t 3), (.c (.int .u8 97)), (.c (.int .u8 122))], none⟩, ⟨some 5, .mv (.t 4), none⟩, ⟨some 6, .mv (.t 0), some (5, true)⟩, ⟨some 7, .callP 44 [(.t 6)], some (5, true)⟩, ⟨some 8, .un .not (.t 7), some (5, true)⟩, ⟨some 9, .pick (.t 5) (.t 8) (.c (.bool false)), none⟩, ⟨some 2, .mv (.t 9), none⟩])
  (.ret)),
  [.t 2]⟩

/- noria/noriaref04.High -/
def d_noriaref04_High : DFun := ⟨
  .seq (.ops false [⟨some 2, .mv (.c (.bool false)), none⟩])
  (.seq (.ops false [⟨some 3, .mv (.t 0), none⟩, ⟨some 4, .callP 43 [(.t 3), (.c (.int .u8 65)), (.c (.int .u8 90))], none⟩, ⟨some 2, .mv (.t 4), none⟩])
  (.ret)),
  [.t 2]⟩

/- noria/noriaref04.Once -/
def d_noriaref04_Once : DFun := ⟨
  .seq (.ops false [⟨some 2, .mv (.c (.bool false)), none⟩])
  (.seq (.seq (.ops false [⟨some 3, .mv (.c (.int .i64 0)), none⟩])
  (.block 0 (.loop [0, 3] (some 0) (.seq (.seq (.ops false [⟨some 5, .mv (.t 3), none⟩, ⟨some 6, .mv (.t 0), none⟩, ⟨some 7, .len (.t 6), none⟩, ⟨some 8, .bin .lss (.t 5) (.t 7), none⟩])
    (.cond (.t 8) (.skip)
     (.exit 0)))
    (.seq (.block 1 (.seq (.ops false [⟨some 4, .mv (.c (.int .i64 0)), none⟩])
     (.block 2 (.loop [0, 3, 4] (some 0) (.seq (.seq (.ops false [⟨some 11, .mv (.t 4), none⟩, ⟨some 12, .mv (.t 3), none⟩, ⟨some 13, .bin .lss (.t 11) (.t 12), none⟩])
       (.cond (.t 13) (.skip)
        (.exit 2)))
       (.seq (.block 3 (.seq (.ops true [⟨some 16, .mv (.t 0), none⟩, ⟨some 17, .mv (.t 4), none⟩, ⟨some 18, .iaddr 1 (.t 16) (.t 17), none⟩, ⟨some 19, .load none (.t 18), none⟩, ⟨some 20, .mv (.t 0), none⟩, ⟨some 21, .mv (.t 3), none⟩, ⟨some 22, .iaddr 1 (.t 20) (.t 21), none⟩, ⟨some 23, .load none (.t 22), none⟩, ⟨some 24, .bin .eql (.t 19) (.t 23), none⟩])
        (.cond (.t 24) (.seq (.ops false [⟨some 2, .mv (.c (.bool false)), none⟩])
         (.ret))
         (.skip))))
       (.ops false [⟨some 14, .mv (.t 4), none⟩, ⟨some 15, .bin .add (.t 14) (.c (.int .i64 1)), none⟩, ⟨some 4, .mv (.t 15), none⟩])))))))
    (.ops false [⟨some 9, .mv (.t 3), none⟩, ⟨some 10, .bin .add (.t 9) (.c (.int .i64 1)), none⟩, ⟨some 3, .mv (.t 10), none⟩]))))))
  (.seq (.ops false [⟨some 2, .mv (.c (.bool true)), none⟩])
  (.ret))),
  [.t 2]⟩

/- noria/ty.ctors$1 -/
def d_ty_ctors_1 : DFun := ⟨
  .seq (.ops false [⟨some 7, .load none (.t 1), none⟩, ⟨some 8, .len (.t 7), none⟩, ⟨some 9, .mv (.c (.int .i64 0)), none⟩])
  (.block 0 (.loop [0, 7, 8, 9] (some 0) (.seq (.ops false [⟨some 10, .bin .lss (.t 9) (.t 8), none⟩])
    (.seq (.cond (.t 10) (.skip)
     (.exit 0))
    (.seq (.block 1 (.seq (.ops false [⟨some 11, .mv (.t 9), none⟩, ⟨some 12, .iaddr 2 (.t 7) (.t 9), none⟩, ⟨some 13, .load (some 2) (.t 12), none⟩, ⟨some 4, .alloc [.str [], .nil], none⟩, ⟨some 3, .mv (.t 11), none⟩, ⟨none, .store 2 (.t 4) (.t 13), none⟩])
     (.seq (.ops false [⟨some 14, .faddr 1 (.t 4), none⟩, ⟨some 15, .load none (.t 14), none⟩, ⟨some 16, .len (.t 15), none⟩, ⟨some 17, .mv (.c (.int .i64 0)), none⟩])
     (.block 2 (.loop [0, 3, 7, 8, 9, 15, 16, 17] (some 1) (.seq (.ops false [⟨some 18, .bin .lss (.t 17) (.t 16), none⟩])
       (.seq (.cond (.t 18) (.skip)
        (.exit 2))
       (.seq (.block 3 (.seq (.ops false [⟨some 19, .mv (.t 17), none⟩, ⟨some 20, .iaddr 1 (.t 15) (.t 17), none⟩, ⟨some 21, .load none (.t 20), none⟩, ⟨some 5, .mv (.t 19), none⟩, ⟨some 6, .mv (.t 21), none⟩])
        (.seq (.ops false [⟨some 22, .mv (.t 0), none⟩, ⟨some 23, .mv (.t 3), none⟩, ⟨some 24, .mv (.t 5), none⟩, ⟨some 25, .build [.int .i64 0, .int .i64 0] [(0, 1, (.t 23)), (1, 1, (.t 24))], none⟩, ⟨some 26, .mv (.t 6), none⟩, ⟨some 27, .callvP (.t 22) [(.t 25), (.t 26)], none⟩, ⟨some 28, .un .not (.t 27), none⟩])
        (.cond (.t 28) (.ret)
         (.skip)))))
       (.ops false [⟨some 29, .bin .add (.t 17) (.c (.int .i64 1)), none⟩, ⟨some 17, .mv (.t 29), none⟩])))))))))
    (.ops false [⟨some 30, .bin .add (.t 9) (.c (.int .i64 1)), none⟩, ⟨some 9, .mv (.t 30), none⟩])))))),
  []⟩

/- internal/strconv.Itoa -/
def d_internal_strconv_Itoa : DFun := ⟨
  .seq (.ops false [⟨some 2, .mv (.c (.str [])), none⟩])
  (.seq (.ops false [⟨some 3, .mv (.t 0), none⟩, ⟨some 4, .callP 45 [(.t 3), (.c (.int .i64 10))], none⟩, ⟨some 2, .mv (.t 4), none⟩])
  (.ret)),
  [.t 2]⟩

/- slices.ContainsFunc[[]noria/api.Enum,noria/api.Enum] -/
def d_slices_ContainsFunc_api_Enum_api_Enum : DFun := ⟨
  .seq (.ops false [⟨some 4, .mv (.c (.bool false)), none⟩])
  (.seq (.ops false [⟨some 5, .mv (.t 0), none⟩, ⟨some 6, .mv (.t 1), none⟩, ⟨some 7, .callP 46 [(.t 5), (.t 6)], none⟩, ⟨some 8, .bin .geq (.t 7) (.c (.int .i64 0)), none⟩, ⟨some 4, .mv (.t 8), none⟩])
  (.ret)),
  [.t 4]⟩

/- noria/ty.great$1 -/
def d_ty_great_1 : DFun := ⟨
  .seq (.ops false [⟨some 1, .box (.t 0), none⟩, ⟨some 2, .mv (.c (.bool false)), none⟩])
  (.seq (.ops false [⟨some 3, .faddr 1 (.t 1), none⟩, ⟨some 4, .load none (.t 3), none⟩, ⟨some 5, .len (.t 4), none⟩, ⟨some 6, .bin .gtr (.t 5) (.c (.int .i64 6)), none⟩, ⟨some 2, .mv (.t 6), none⟩])
  (.ret)),
  [.t 2]⟩

/- noria/ident.name -/
def d_ident_name : DFun := ⟨
  .seq (.ops false [⟨some 4, .mv (.c (.bool false)), none⟩])
  (.seq (.seq (.ops false [⟨some 7, .mv (.t 0), none⟩, ⟨some 8, .bad, none⟩])
  (.block 0 (.loop [0, 1, 8] (some 0) (.seq (.ops false [⟨some 9, .bad, none⟩, ⟨some 10, .extract 0 (.t 9), none⟩])
    (.seq (.cond (.t 10) (.skip)
     (.exit 0))
    (.block 1 (.seq (.ops false [⟨some 11, .extract 1 (.t 9), none⟩, ⟨some 12, .extract 2 (.t 9), none⟩, ⟨some 5, .mv (.t 11), none⟩, ⟨some 6, .mv (.t 12), none⟩])
     (.seq (.ops false [⟨some 13, .mv (.t 5), none⟩, ⟨some 14, .bin .eql (.t 13) (.c (.int .i64 0)), none⟩, ⟨some 15, .mv (.t 14), none⟩, ⟨some 16, .mv (.t 1), some (15, true)⟩, ⟨some 17, .mv (.t 6), some (15, true)⟩, ⟨some 18, .callvP (.t 16) [(.t 17)], some (15, true)⟩, ⟨some 19, .un .not (.t 18), some (15, true)⟩, ⟨some 20, .pick (.t 15) (.t 19) (.c (.bool false)), none⟩, ⟨some 21, .mv (.t 20), none⟩, ⟨some 22, .mv (.t 6), some (21, false)⟩, ⟨some 23, .callP 40 [(.t 22)], some (21, false)⟩, ⟨some 24, .un .not (.t 23), some (21, false)⟩, ⟨some 25, .mv (.t 24), some (21, false)⟩, ⟨some 26, .mv (.t 6), some (25, true)⟩, ⟨some 27, .callP 42 [(.t 26)], some (25, true)⟩, ⟨some 28, .un .not (.t 27), some (25, true)⟩, ⟨some 29, .pick (.t 25) (.t 28) (.c (.bool false)), some (21, false)⟩, ⟨some 30, .mv (.t 29), some (21, false)⟩, ⟨some 31, .mv (.t 6), some (30, true)⟩, ⟨some 32, .callP 47 [(.t 31)], some (30, true)⟩, ⟨some 33, .un .not (.t 32), some (30, true)⟩, ⟨some 34, .pick (.t 30) (.t 33) (.c (.bool false)), some (21, false)⟩, ⟨some 35, .mv (.t 34), some (21, false)⟩, ⟨some 36, .mv (.t 6), some (35, true)⟩, ⟨some 37, .bin .neq (.t 36) (.c (.int .i32 95)), some (35, true)⟩, ⟨some 38, .pick (.t 35) (.t 37) (.c (.bool false)), some (21, false)⟩, ⟨some 39, .pick (.t 21) (.c (.bool true)) (.t 38), none⟩])
     (.cond (.t 39) (.seq (.ops false [⟨some 4, .mv (.c (.bool false)), none⟩])
      (.ret))
      (.skip))))))))))
  (.seq (.ops false [⟨some 40, .mv (.t 0), none⟩, ⟨some 41, .lenS (.t 40), none⟩, ⟨some 42, .bin .geq (.t 41) (.c (.int .i64 1)), none⟩, ⟨some 43, .mv (.t 42), none⟩, ⟨some 44, .mv (.t 0), some (43, true)⟩, ⟨some 45, .lenS (.t 44), some (43, true)⟩, ⟨some 46, .bin .leq (.t 45) (.c (.int .i64 12)), some (43, true)⟩, ⟨some 47, .pick (.t 43) (.t 46) (.c (.bool false)), none⟩, ⟨some 4, .mv (.t 47), none⟩])
  (.ret))),
  [.t 4]⟩

/- noria/ident.small -/
def d_ident_small : DFun := ⟨
  .seq (.ops false [⟨some 2, .mv (.c (.bool false)), none⟩])
  (.seq (.ops false [⟨some 3, .mv (.t 0), none⟩, ⟨some 4, .bin .geq (.t 3) (.c (.int .i32 97)), none⟩, ⟨some 5, .mv (.t 4), none⟩, ⟨some 6, .mv (.t 0), some (5, true)⟩, ⟨some 7, .bin .leq (.t 6) (.c (.int .i32 122)), some (5, true)⟩, ⟨some 8, .pick (.t 5) (.t 7) (.c (.bool false)), none⟩, ⟨some 2, .mv (.t 8), none⟩])
  (.ret)),
  [.t 2]⟩

/- noria/ident.Word -/
def d_ident_Word : DFun := ⟨
  .seq (.ops false [⟨some 2, .mv (.c (.bool false)), none⟩])
  (.seq (.seq (.ops false [⟨some 3, .mv (.t 0), none⟩])
  (.block 0 (.seq (.seq (.ops false [⟨some 5, .bin .eql (.t 3) (.c (.str [110, 111, 100, 101])), none⟩, ⟨some 4, .mv (.t 5), none⟩])
   (.cond (.t 4) (.skip)
    (.seq (.ops false [⟨some 6, .bin .eql (.t 3) (.c (.str [114, 101, 116, 117, 114, 110, 115])), none⟩, ⟨some 4, .mv (.t 6), none⟩])
    (.cond (.t 4) (.skip)
     (.seq (.ops false [⟨some 7, .bin .eql (.t 3) (.c (.str [118, 97, 114])), none⟩, ⟨some 4, .mv (.t 7), none⟩])
     (.cond (.t 4) (.skip)
      (.seq (.ops false [⟨some 8, .bin .eql (.t 3) (.c (.str [108, 101, 116])), none⟩, ⟨some 4, .mv (.t 8), none⟩])
      (.cond (.t 4) (.skip)
       (.seq (.ops false [⟨some 9, .bin .eql (.t 3) (.c (.str [116, 101, 108])), none⟩, ⟨some 4, .mv (.t 9), none⟩])
       (.cond (.t 4) (.skip)
        (.seq (.ops false [⟨some 10, .bin .eql (.t 3) (.c (.str [101, 110, 117, 109])), none⟩, ⟨some 4, .mv (.t 10), none⟩])
        (.cond (.t 4) (.skip)
         (.seq (.ops false [⟨some 11, .bin .eql (.t 3) (.c (.str [105, 102])), none⟩, ⟨some 4, .mv (.t 11), none⟩])
         (.cond (.t 4) (.skip)
          (.seq (.ops false [⟨some 12, .bin .eql (.t 3) (.c (.str [116, 104, 101, 110])), none⟩, ⟨some 4, .mv (.t 12), none⟩])
          (.cond (.t 4) (.skip)
           (.seq (.ops false [⟨some 13, .bin .eql (.t 3) (.c (.str [101, 108, 115, 101])), none⟩, ⟨some 4, .mv (.t 13), none⟩])
           (.cond (.t 4) (.skip)
            (.seq (.ops false [⟨some 14, .bin .eql (.t 3) (.c (.str [102, 98, 121])), none⟩, ⟨some 4, .mv (.t 14), none⟩])
            (.cond (.t 4) (.skip)
             (.seq (.ops false [⟨some 15, .bin .eql (.t 3) (.c (.str [112, 114, 101])), none⟩, ⟨some 4, .mv (.t 15), none⟩])
             (.cond (.t 4) (.skip)
              (.ops false [⟨some 16, .bin .eql (.t 3) (.c (.str [119, 104, 101, 110])), none⟩, ⟨some 4, .mv (.t 16), none⟩])))))))))))))))))))))))
   (.cond (.t 4) (.seq (.ops false [⟨some 2, .mv (.c (.bool true)), none⟩])
    (.ret))
    (.seq (.seq (.ops false [⟨some 18, .bin .eql (.t 3) (.c (.str [109, 101, 114, 103, 101])), none⟩, ⟨some 17, .mv (.t 18), none⟩])
    (.cond (.t 17) (.skip)
     (.seq (.ops false [⟨some 19, .bin .eql (.t 3) (.c (.str [101, 118, 101, 114, 121])), none⟩, ⟨some 17, .mv (.t 19), none⟩])
     (.cond (.t 17) (.skip)
      (.seq (.ops false [⟨some 20, .bin .eql (.t 3) (.c (.str [110, 111, 116])), none⟩, ⟨some 17, .mv (.t 20), none⟩])
      (.cond (.t 17) (.skip)
       (.seq (.ops false [⟨some 21, .bin .eql (.t 3) (.c (.str [97, 110, 100])), none⟩, ⟨some 17, .mv (.t 21), none⟩])
       (.cond (.t 17) (.skip)
        (.seq (.ops false [⟨some 22, .bin .eql (.t 3) (.c (.str [111, 114])), none⟩, ⟨some 17, .mv (.t 22), none⟩])
        (.cond (.t 17) (.skip)
         (.seq (.ops false [⟨some 23, .bin .eql (.t 3) (.c (.str [120, 111, 114])), none⟩, ⟨some 17, .mv (.t 23), none⟩])
         (.cond (.t 17) (.skip)
          (.seq (.ops false [⟨some 24, .bin .eql (.t 3) (.c (.str [109, 111, 100])), none⟩, ⟨some 17, .mv (.t 24), none⟩])
          (.cond (.t 17) (.skip)
           (.seq (.ops false [⟨some 25, .bin .eql (.t 3) (.c (.str [116, 114, 117, 101])), none⟩, ⟨some 17, .mv (.t 25), none⟩])
           (.cond (.t 17) (.skip)
            (.seq (.ops false [⟨some 26, .bin .eql (.t 3) (.c (.str [102, 97, 108, 115, 101])), none⟩, ⟨some 17, .mv (.t 26), none⟩])
            (.cond (.t 17) (.skip)
             (.seq (.ops false [⟨some 27, .bin .eql (.t 3) (.c (.str [105, 110, 116])), none⟩, ⟨some 17, .mv (.t 27), none⟩])
             (.cond (.t 17) (.skip)
              (.seq (.ops false [⟨some 28, .bin .eql (.t 3) (.c (.str [98, 111, 111, 108])), none⟩, ⟨some 17, .mv (.t 28), none⟩])
              (.cond (.t 17) (.skip)
               (.ops false [⟨some 29, .bin .eql (.t 3) (.c (.str [119, 105, 116, 104])), none⟩, ⟨some 17, .mv (.t 29), none⟩])))))))))))))))))))))))
    (.cond (.t 17) (.seq (.ops false [⟨some 2, .mv (.c (.bool true)), none⟩])
     (.ret))
     (.skip)))))))
  (.seq (.ops false [⟨some 2, .mv (.c (.bool false)), none⟩])
  (.ret))),
  [.t 2]⟩

/- noria/ident.great -/
def d_ident_great : DFun := ⟨
  .seq (.ops false [⟨some 2, .mv (.c (.bool false)), none⟩])
  (.seq (.ops false [⟨some 3, .mv (.t 0), none⟩, ⟨some 4, .bin .geq (.t 3) (.c (.int .i32 65)), none⟩, ⟨some 5, .mv (.t 4), none⟩, ⟨some 6, .mv (.t 0), some (5, true)⟩, ⟨some 7, .bin .leq (.t 6) (.c (.int .i32 90)), some (5, true)⟩, ⟨some 8, .pick (.t 5) (.t 7) (.c (.bool false)), none⟩, ⟨some 2, .mv (.t 8), none⟩])
  (.ret)),
  [.t 2]⟩

/- noria/noriaref04.name -/
def d_noriaref04_name : DFun := ⟨
  .seq (.ops false [⟨some 6, .mv (.c (.bool false)), none⟩])
  (.seq (.seq (.ops false [⟨some 8, .mv (.t 0), none⟩, ⟨some 9, .lenS (.t 8), none⟩, ⟨some 10, .bin .lss (.t 9) (.c (.int .i64 1)), none⟩, ⟨some 11, .mv (.t 10), none⟩, ⟨some 12, .mv (.t 0), some (11, false)⟩, ⟨some 13, .lenS (.t 12), some (11, false)⟩, ⟨some 14, .bin .gtr (.t 13) (.c (.int .i64 12)), some (11, false)⟩, ⟨some 15, .pick (.t 11) (.c (.bool true)) (.t 14), none⟩, ⟨some 16, .mv (.t 15), none⟩, ⟨some 17, .mv (.t 0), some (16, false)⟩, ⟨some 18, .index (.t 17) (.c (.int .i64 0)), some (16, false)⟩, ⟨some 19, .mv (.t 1), some (16, false)⟩, ⟨some 20, .mv (.t 2), some (16, false)⟩, ⟨some 21, .callP 48 [(.t 18), (.t 19), (.t 20)], some (16, false)⟩, ⟨some 22, .un .not (.t 21), some (16, false)⟩, ⟨some 23, .pick (.t 16) (.c (.bool true)) (.t 22), none⟩])
  (.cond (.t 23) (.seq (.ops false [⟨some 6, .mv (.c (.bool false)), none⟩])
   (.ret))
   (.skip)))
  (.seq (.seq (.ops false [⟨some 7, .mv (.c (.int .i64 0)), none⟩])
  (.block 0 (.loop [0, 7] (some 0) (.seq (.seq (.ops false [⟨some 24, .mv (.t 7), none⟩, ⟨some 25, .mv (.t 0), none⟩, ⟨some 26, .lenS (.t 25), none⟩, ⟨some 27, .bin .lss (.t 24) (.t 26), none⟩])
    (.cond (.t 27) (.skip)
     (.exit 0)))
    (.seq (.block 1 (.seq (.ops false [⟨some 30, .mv (.t 0), none⟩, ⟨some 31, .mv (.t 7), none⟩, ⟨some 32, .index (.t 30) (.t 31), none⟩, ⟨some 33, .callP 48 [(.t 32), (.c (.int .u8 97)), (.c (.int .u8 122))], none⟩, ⟨some 34, .un .not (.t 33), none⟩, ⟨some 35, .mv (.t 34), none⟩, ⟨some 36, .mv (.t 0), some (35, true)⟩, ⟨some 37, .mv (.t 7), some (35, true)⟩, ⟨some 38, .index (.t 36) (.t 37), some (35, true)⟩, ⟨some 39, .callP 48 [(.t 38), (.c (.int .u8 65)), (.c (.int .u8 90))], some (35, true)⟩, ⟨some 40, .un .not (.t 39), some (35, true)⟩, ⟨some 41, .pick (.t 35) (.t 40) (.c (.bool false)), none⟩, ⟨some 42, .mv (.t 41), none⟩, ⟨some 43, .mv (.t 0), some (42, true)⟩, ⟨some 44, .mv (.t 7), some (42, true)⟩, ⟨some 45, .index (.t 43) (.t 44), some (42, true)⟩, ⟨some 46, .callP 48 [(.t 45), (.c (.int .u8 48)), (.c (.int .u8 57))], some (42, true)⟩, ⟨some 47, .un .not (.t 46), some (42, true)⟩, ⟨some 48, .pick (.t 42) (.t 47) (.c (.bool false)), none⟩, ⟨some 49, .mv (.t 48), none⟩, ⟨some 50, .mv (.t 0), some (49, true)⟩, ⟨some 51, .mv (.t 7), some (49, true)⟩, ⟨some 52, .index (.t 50) (.t 51), some (49, true)⟩, ⟨some 53, .bin .neq (.t 52) (.c (.int .u8 95)), some (49, true)⟩, ⟨some 54, .pick (.t 49) (.t 53) (.c (.bool false)), none⟩])
     (.cond (.t 54) (.seq (.ops false [⟨some 6, .mv (.c (.bool false)), none⟩])
      (.ret))
      (.skip))))
    (.ops false [⟨some 28, .mv (.t 7), none⟩, ⟨some 29, .bin .add (.t 28) (.c (.int .i64 1)), none⟩, ⟨some 7, .mv (.t 29), none⟩]))))))
  (.seq (.ops false [⟨some 6, .mv (.c (.bool true)), none⟩])
  (.ret)))),
  [.t 6]⟩

/- noria/noriaref04.Word -/
def d_noriaref04_Word : DFun := ⟨
  .seq (.ops false [⟨some 2, .mv (.c (.bool false)), none⟩])
  (.seq (.ops false [⟨some 5, .callP 49 [], none⟩, ⟨some 3, .mv (.t 5), none⟩])
  (.seq (.seq (.ops false [⟨some 4, .mv (.c (.int .i64 0)), none⟩])
  (.block 0 (.loop [0, 3, 4] (some 0) (.seq (.seq (.ops false [⟨some 6, .mv (.t 4), none⟩, ⟨some 7, .mv (.t 3), none⟩, ⟨some 8, .len (.t 7), none⟩, ⟨some 9, .bin .lss (.t 6) (.t 8), none⟩])
    (.cond (.t 9) (.skip)
     (.exit 0)))
    (.seq (.block 1 (.seq (.ops false [⟨some 12, .mv (.t 3), none⟩, ⟨some 13, .mv (.t 4), none⟩, ⟨some 14, .iaddr 1 (.t 12) (.t 13), none⟩, ⟨some 15, .load none (.t 14), none⟩, ⟨some 16, .mv (.t 0), none⟩, ⟨some 17, .bin .eql (.t 15) (.t 16), none⟩])
     (.cond (.t 17) (.seq (.ops false [⟨some 2, .mv (.c (.bool true)), none⟩])
      (.ret))
      (.skip))))
    (.ops false [⟨some 10, .mv (.t 4), none⟩, ⟨some 11, .bin .add (.t 10) (.c (.int .i64 1)), none⟩, ⟨some 4, .mv (.t 11), none⟩]))))))
  (.seq (.ops false [⟨some 2, .mv (.c (.bool false)), none⟩])
  (.ret)))),
  [.t 2]⟩

/- internal/strconv.FormatInt -/
def d_internal_strconv_FormatInt : DFun := ⟨
  .seq (.ops false [⟨some 4, .mv (.c (.str [])), none⟩])
  (.seq (.seq (.ops false [⟨some 10, .mv (.t 1), none⟩, ⟨some 11, .bin .eql (.t 10) (.c (.int .i64 10)), none⟩])
  (.cond (.t 11) (.seq (.seq (.ops false [⟨some 12, .mv (.t 0), none⟩, ⟨some 13, .bin .leq (.c (.int .i64 0)) (.t 12), none⟩, ⟨some 14, .mv (.t 13), none⟩, ⟨some 15, .mv (.t 0), some (14, true)⟩, ⟨some 16, .bin .lss (.t 15) (.c (.int .i64 100)), some (14, true)⟩, ⟨some 17, .pick (.t 14) (.t 16) (.c (.bool false)), none⟩])
   (.cond (.t 17) (.seq (.ops false [⟨some 18, .mv (.t 0), none⟩, ⟨some 19, .callP 50 [(.t 18)], none⟩, ⟨some 4, .mv (.t 19), none⟩])
    (.ret))
    (.skip)))
   (.seq (.ops false [⟨some 5, .alloc [.int .u8 0, .int .u8 0, .int .u8 0, .int .u8 0, .int .u8 0, .int .u8 0, .int .u8 0, .int .u8 0, .int .u8 0, .int .u8 0, .int .u8 0, .int .u8 0, .int .u8 0, .int .u8 0, .int .u8 0, .int .u8 0, .int .u8 0, .int .u8 0, .int .u8 0, .int .u8 0, .int .u8 0, .int .u8 0, .int .u8 0, .int .u8 0], none⟩])
   (.seq (.ops false [⟨some 20, .mv (.t 0), none⟩, ⟨some 21, .conv .u64 (.t 20), none⟩, ⟨some 6, .mv (.t 21), none⟩])
   (.seq (.seq (.ops false [⟨some 22, .mv (.t 0), none⟩, ⟨some 23, .bin .lss (.t 22) (.c (.int .i64 0)), none⟩])
   (.cond (.t 23) (.ops false [⟨some 24, .mv (.t 6), none⟩, ⟨some 25, .un .neg (.t 24), none⟩, ⟨some 6, .mv (.t 25), none⟩])
    (.skip)))
   (.seq (.ops false [⟨some 26, .mv (.t 6), none⟩, ⟨some 27, .callP 51 [(.t 26)], none⟩, ⟨some 7, .mv (.t 27), none⟩])
   (.seq (.ops false [⟨some 28, .mv (.t 7), none⟩, ⟨some 29, .bin .add (.c (.int .i64 1)) (.t 28), none⟩, ⟨some 30, .bad, none⟩, ⟨some 31, .mv (.t 6), none⟩, ⟨some 32, .callP 52 [(.t 30), (.t 31)], none⟩])
   (.seq (.seq (.ops false [⟨some 33, .mv (.t 0), none⟩, ⟨some 34, .bin .lss (.t 33) (.c (.int .i64 0)), none⟩])
   (.cond (.t 34) (.seq (.ops false [⟨some 35, .iaddrA 24 1 (.t 5) (.c (.int .i64 0)), none⟩, ⟨none, .store 1 (.t 35) (.c (.int .u8 45)), none⟩])
    (.seq (.ops false [⟨some 36, .mv (.t 7), none⟩, ⟨some 37, .bin .add (.c (.int .i64 1)) (.t 36), none⟩, ⟨some 38, .bad, none⟩, ⟨some 39, .b2s (.t 38), none⟩, ⟨some 4, .mv (.t 39), none⟩])
    (.ret)))
    (.skip)))
   (.seq (.ops false [⟨some 40, .mv (.t 7), none⟩, ⟨some 41, .bin .add (.c (.int .i64 1)) (.t 40), none⟩, ⟨some 42, .bad, none⟩, ⟨some 43, .b2s (.t 42), none⟩, ⟨some 4, .mv (.t 43), none⟩])
   (.ret)))))))))
   (.skip)))
  (.seq (.ops false [⟨some 45, .mv (.t 0), none⟩, ⟨some 46, .conv .u64 (.t 45), none⟩, ⟨some 47, .mv (.t 1), none⟩, ⟨some 48, .mv (.t 0), none⟩, ⟨some 49, .bin .lss (.t 48) (.c (.int .i64 0)), none⟩, ⟨some 50, .callP 53 [(.c (.nil)), (.t 46), (.t 47), (.t 49), (.c (.bool false))], none⟩, ⟨some 44, .mv (.t 50), none⟩, ⟨some 51, .extract 0 (.t 44), none⟩, ⟨some 52, .extract 1 (.t 44), none⟩, ⟨some 8, .mv (.t 51), none⟩, ⟨some 9, .mv (.t 52), none⟩])
  (.seq (.ops false [⟨some 53, .mv (.t 9), none⟩, ⟨some 4, .mv (.t 53), none⟩])
  (.ret)))),
  [.t 4]⟩

/- slices.IndexFunc[[]noria/api.Enum,noria/api.Enum] -/
def d_slices_IndexFunc_api_Enum_api_Enum : DFun := ⟨
  .seq (.ops false [⟨some 4, .mv (.c (.int .i64 0)), none⟩])
  (.seq (.seq (.ops false [⟨some 6, .mv (.t 0), none⟩, ⟨some 7, .len (.t 6), none⟩, ⟨some 8, .mv (.c (.int .i64 0)), none⟩])
  (.block 0 (.loop [0, 1, 7, 8] (some 0) (.seq (.ops false [⟨some 9, .bin .lss (.t 8) (.t 7), none⟩])
    (.seq (.cond (.t 9) (.skip)
     (.exit 0))
    (.seq (.block 1 (.seq (.ops false [⟨some 10, .mv (.t 8), none⟩, ⟨some 5, .mv (.t 10), none⟩])
     (.seq (.ops false [⟨some 11, .mv (.t 1), none⟩, ⟨some 12, .mv (.t 0), none⟩, ⟨some 13, .mv (.t 5), none⟩, ⟨some 14, .iaddr 2 (.t 12) (.t 13), none⟩, ⟨some 15, .load (some 2) (.t 14), none⟩, ⟨some 16, .callvP (.t 11) [(.t 15)], none⟩])
     (.cond (.t 16) (.seq (.ops false [⟨some 17, .mv (.t 5), none⟩, ⟨some 4, .mv (.t 17), none⟩])
      (.ret))
      (.skip)))))
    (.ops false [⟨some 18, .bin .add (.t 8) (.c (.int .i64 1)), none⟩, ⟨some 8, .mv (.t 18), none⟩])))))))
  (.seq (.ops false [⟨some 4, .mv (.c (.int .i64 (-1))), none⟩])
  (.ret))),
  [.t 4]⟩

/- noria/ident.digit -/
def d_ident_digit : DFun := ⟨
  .seq (.ops false [⟨some 2, .mv (.c (.bool false)), none⟩])
  (.seq (.ops false [⟨some 3, .mv (.t 0), none⟩, ⟨some 4, .bin .geq (.t 3) (.c (.int .i32 48)), none⟩, ⟨some 5, .mv (.t 4), none⟩, ⟨some 6, .mv (.t 0), some (5, true)⟩, ⟨some 7, .bin .leq (.t 6) (.c (.int .i32 57)), some (5, true)⟩, ⟨some 8, .pick (.t 5) (.t 7) (.c (.bool false)), none⟩, ⟨some 2, .mv (.t 8), none⟩])
  (.ret)),
  [.t 2]⟩

/- noria/noriaref04.in -/
def d_noriaref04_in : DFun := ⟨
  .seq (.ops false [⟨some 6, .mv (.c (.bool false)), none⟩])
  (.seq (.ops false [⟨some 7, .mv (.t 0), none⟩, ⟨some 8, .mv (.t 1), none⟩, ⟨some 9, .bin .geq (.t 7) (.t 8), none⟩, ⟨some 10, .mv (.t 9), none⟩, ⟨some 11, .mv (.t 0), some (10, true)⟩, ⟨some 12, .mv (.t 2), some (10, true)⟩, ⟨some 13, .bin .leq (.t 11) (.t 12), some (10, true)⟩, ⟨some 14, .pick (.t 10) (.t 13) (.c (.bool false)), none⟩, ⟨some 6, .mv (.t 14), none⟩])
  (.ret)),
  [.t 6]⟩

/- noria/noriaref04.Words -/
def d_noriaref04_Words : DFun := ⟨
  .seq (.ops false [⟨some 0, .mv (.c (.nil)), none⟩])
  (.seq (.ops false [⟨some 1, .bslice true [.str []] [(some (.c (.str [110, 111, 100, 101]))), (some (.c (.str [114, 101, 116, 117, 114, 110, 115]))), (some (.c (.str [118, 97, 114]))), (some (.c (.str [108, 101, 116]))), (some (.c (.str [116, 101, 108]))), (some (.c (.str [101, 110, 117, 109]))), (some (.c (.str [105, 102]))), (some (.c (.str [116, 104, 101, 110]))), (some (.c (.str [101, 108, 115, 101]))), (some (.c (.str [102, 98, 121]))), (some (.c (.str [112, 114, 101]))), (some (.c (.str [119, 104, 101, 110]))), (some (.c (.str [109, 101, 114, 103, 101]))), (some (.c (.str [101, 118, 101, 114, 121]))), (some (.c (.str [110, 111, 116]))), (some (.c (.str [97, 110, 100]))), (some (.c (.str [111, 114]))), (some (.c (.str [120, 111, 114]))), (some (.c (.str [109, 111, 100]))), (some (.c (.str [116, 114, 117, 101]))), (some (.c (.str [102, 97, 108, 115, 101]))), (some (.c (.str [105, 110, 116]))), (some (.c (.str [98, 111, 111, 108]))), (some (.c (.str [119, 105, 116, 104])))], none⟩, ⟨some 0, .mv (.t 1), none⟩])
  (.ret)),
  [.t 0]⟩

/- internal/strconv.small -/
def d_internal_strconv_small : DFun := ⟨
  .seq (.ops false [⟨some 2, .mv (.c (.str [])), none⟩])
  (.seq (.seq (.ops false [⟨some 3, .mv (.t 0), none⟩, ⟨some 4, .bin .lss (.t 3) (.c (.int .i64 10)), none⟩])
  (.cond (.t 4) (.seq (.ops false [⟨some 5, .mv (.t 0), none⟩, ⟨some 6, .mv (.t 0), none⟩, ⟨some 7, .bin .add (.t 6) (.c (.int .i64 1)), none⟩, ⟨some 8, .sliceS (.c (.str [48, 49, 50, 51, 52, 53, 54, 55, 56, 57, 97, 98, 99, 100, 101, 102, 103, 104, 105, 106, 107, 108, 109, 110, 111, 112, 113, 114, 115, 116, 117, 118, 119, 120, 121, 122])) (some (.t 5)) (some (.t 7)), none⟩, ⟨some 2, .mv (.t 8), none⟩])
   (.ret))
   (.skip)))
  (.seq (.ops false [⟨some 9, .mv (.t 0), none⟩, ⟨some 10, .bin .mul (.t 9) (.c (.int .i64 2)), none⟩, ⟨some 11, .mv (.t 0), none⟩, ⟨some 12, .bin .mul (.t 11) (.c (.int .i64 2)), none⟩, ⟨some 13, .bin .add (.t 12) (.c (.int .i64 2)), none⟩, ⟨some 14, .sliceS (.c (.str [48, 48, 48, 49, 48, 50, 48, 51, 48, 52, 48, 53, 48, 54, 48, 55, 48, 56, 48, 57, 49, 48, 49, 49, 49, 50, 49, 51, 49, 52, 49, 53, 49, 54, 49, 55, 49, 56, 49, 57, 50, 48, 50, 49, 50, 50, 50, 51, 50, 52, 50, 53, 50, 54, 50, 55, 50, 56, 50, 57, 51, 48, 51, 49, 51, 50, 51, 51, 51, 52, 51, 53, 51, 54, 51, 55, 51, 56, 51, 57, 52, 48, 52, 49, 52, 50, 52, 51, 52, 52, 52, 53, 52, 54, 52, 55, 52, 56, 52, 57, 53, 48, 53, 49, 53, 50, 53, 51, 53, 52, 53, 53, 53, 54, 53, 55, 53, 56, 53, 57, 54, 48, 54, 49, 54, 50, 54, 51, 54, 52, 54, 53, 54, 54, 54, 55, 54, 56, 54, 57, 55, 48, 55, 49, 55, 50, 55, 51, 55, 52, 55, 53, 55, 54, 55, 55, 55, 56, 55, 57, 56, 48, 56, 49, 56, 50, 56, 51, 56, 52, 56, 53, 56, 54, 56, 55, 56, 56, 56, 57, 57, 48, 57, 49, 57, 50, 57, 51, 57, 52, 57, 53, 57, 54, 57, 55, 57, 56, 57, 57])) (some (.t 10)) (some (.t 13)), none⟩, ⟨some 2, .mv (.t 14), none⟩])
  (.ret))),
  [.t 2]⟩

/- internal/strconv.numDigits -/
def d_internal_strconv_numDigits : DFun := ⟨
  .seq (.ops false [⟨some 2, .mv (.c (.int .i64 0)), none⟩])
  (.seq (.ops false [⟨some 4, .mv (.t 0), none⟩, ⟨some 5, .callP 55 [(.t 4)], none⟩, ⟨some 6, .callP 54 [(.t 5)], none⟩, ⟨some 3, .mv (.t 6), none⟩])
  (.seq (.ops false [⟨some 7, .mv (.t 3), none⟩, ⟨some 8, .mv (.t 0), none⟩, ⟨some 9, .mv (.t 3), none⟩, ⟨some 10, .bad, none⟩, ⟨some 11, .load none (.t 10), none⟩, ⟨some 12, .bin .geq (.t 8) (.t 11), none⟩, ⟨some 13, .callP 56 [(.t 12)], none⟩, ⟨some 14, .bin .add (.t 7) (.t 13), none⟩, ⟨some 2, .mv (.t 14), none⟩])
  (.ret))),
  [.t 2]⟩

/- internal/strconv.formatBase10 -/
def d_internal_strconv_formatBase10 : DFun := ⟨
  .seq (.ops false [⟨some 17, .mv (.t 0), none⟩, ⟨some 18, .len (.t 17), none⟩, ⟨some 4, .mv (.t 18), none⟩])
  (.seq (.block 0 (.loop [0, 1, 4] (some 0) (.seq (.seq (.ops false [⟨some 19, .mv (.t 4), none⟩, ⟨some 20, .bin .geq (.t 19) (.c (.int .i64 8)), none⟩])
    (.cond (.t 20) (.skip)
     (.exit 0)))
    (.block 1 (.seq (.ops false [⟨some 21, .mv (.t 1), none⟩, ⟨some 22, .bin .rem (.t 21) (.c (.int .u64 100000000)), none⟩, ⟨some 23, .conv .u32 (.t 22), none⟩, ⟨some 5, .mv (.t 23), none⟩])
     (.seq (.ops false [⟨some 24, .mv (.t 1), none⟩, ⟨some 25, .bin .quo (.t 24) (.c (.int .u64 100000000)), none⟩, ⟨some 1, .mv (.t 25), none⟩])
     (.seq (.ops false [⟨some 26, .mv (.t 5), none⟩, ⟨some 27, .bin .quo (.t 26) (.c (.int .u32 10000)), none⟩, ⟨some 28, .mv (.t 5), none⟩, ⟨some 29, .bin .rem (.t 28) (.c (.int .u32 10000)), none⟩, ⟨some 6, .mv (.t 27), none⟩, ⟨some 7, .mv (.t 29), none⟩])
     (.seq (.ops false [⟨some 30, .mv (.t 7), none⟩, ⟨some 31, .bin .quo (.t 30) (.c (.int .u32 100)), none⟩, ⟨some 32, .bin .mul (.t 31) (.c (.int .u32 2)), none⟩, ⟨some 33, .mv (.t 7), none⟩, ⟨some 34, .bin .rem (.t 33) (.c (.int .u32 100)), none⟩, ⟨some 35, .bin .mul (.t 34) (.c (.int .u32 2)), none⟩, ⟨some 8, .mv (.t 32), none⟩, ⟨some 9, .mv (.t 35), none⟩])
     (.seq (.ops false [⟨some 36, .mv (.t 6), none⟩, ⟨some 37, .bin .quo (.t 36) (.c (.int .u32 100)), none⟩, ⟨some 38, .bin .mul (.t 37) (.c (.int .u32 2)), none⟩, ⟨some 39, .mv (.t 6), none⟩, ⟨some 40, .bin .rem (.t 39) (.c (.int .u32 100)), none⟩, ⟨some 41, .bin .mul (.t 40) (.c (.int .u32 2)), none⟩, ⟨some 10, .mv (.t 38), none⟩, ⟨some 11, .mv (.t 41), none⟩])
     (.seq (.ops true [⟨some 42, .mv (.t 0), none⟩, ⟨some 43, .mv (.t 4), none⟩, ⟨some 44, .bin .sub (.t 43) (.c (.int .i64 1)), none⟩, ⟨some 45, .mv (.t 0), none⟩, ⟨some 46, .mv (.t 4), none⟩, ⟨some 47, .bin .sub (.t 46) (.c (.int .i64 2)), none⟩, ⟨some 48, .mv (.t 9), none⟩, ⟨some 49, .bin .add (.t 48) (.c (.int .u32 1)), none⟩, ⟨some 50, .index (.c (.str [48, 48, 48, 49, 48, 50, 48, 51, 48, 52, 48, 53, 48, 54, 48, 55, 48, 56, 48, 57, 49, 48, 49, 49, 49, 50, 49, 51, 49, 52, 49, 53, 49, 54, 49, 55, 49, 56, 49, 57, 50, 48, 50, 49, 50, 50, 50, 51, 50, 52, 50, 53, 50, 54, 50, 55, 50, 56, 50, 57, 51, 48, 51, 49, 51, 50, 51, 51, 51, 52, 51, 53, 51, 54, 51, 55, 51, 56, 51, 57, 52, 48, 52, 49, 52, 50, 52, 51, 52, 52, 52, 53, 52, 54, 52, 55, 52, 56, 52, 57, 53, 48, 53, 49, 53, 50, 53, 51, 53, 52, 53, 53, 53, 54, 53, 55, 53, 56, 53, 57, 54, 48, 54, 49, 54, 50, 54, 51, 54, 52, 54, 53, 54, 54, 54, 55, 54, 56, 54, 57, 55, 48, 55, 49, 55, 50, 55, 51, 55, 52, 55, 53, 55, 54, 55, 55, 55, 56, 55, 57, 56, 48, 56, 49, 56, 50, 56, 51, 56, 52, 56, 53, 56, 54, 56, 55, 56, 56, 56, 57, 57, 48, 57, 49, 57, 50, 57, 51, 57, 52, 57, 53, 57, 54, 57, 55, 57, 56, 57, 57])) (.t 49), none⟩, ⟨some 51, .mv (.t 9), none⟩, ⟨some 52, .index (.c (.str [48, 48, 48, 49, 48, 50, 48, 51, 48, 52, 48, 53, 48, 54, 48, 55, 48, 56, 48, 57, 49, 48, 49, 49, 49, 50, 49, 51, 49, 52, 49, 53, 49, 54, 49, 55, 49, 56, 49, 57, 50, 48, 50, 49, 50, 50, 50, 51, 50, 52, 50, 53, 50, 54, 50, 55, 50, 56, 50, 57, 51, 48, 51, 49, 51, 50, 51, 51, 51, 52, 51, 53, 51, 54, 51, 55, 51, 56, 51, 57, 52, 48, 52, 49, 52, 50, 52, 51, 52, 52, 52, 53, 52, 54, 52, 55, 52, 56, 52, 57, 53, 48, 53, 49, 53, 50, 53, 51, 53, 52, 53, 53, 53, 54, 53, 55, 53, 56, 53, 57, 54, 48, 54, 49, 54, 50, 54, 51, 54, 52, 54, 53, 54, 54, 54, 55, 54, 56, 54, 57, 55, 48, 55, 49, 55, 50, 55, 51, 55, 52, 55, 53, 55, 54, 55, 55, 55, 56, 55, 57, 56, 48, 56, 49, 56, 50, 56, 51, 56, 52, 56, 53, 56, 54, 56, 55, 56, 56, 56, 57, 57, 48, 57, 49, 57, 50, 57, 51, 57, 52, 57, 53, 57, 54, 57, 55, 57, 56, 57, 57])) (.t 51), none⟩, ⟨some 53, .iaddr 1 (.t 42) (.t 44), none⟩, ⟨none, .store 1 (.t 53) (.t 50), none⟩, ⟨some 54, .iaddr 1 (.t 45) (.t 47), none⟩, ⟨none, .store 1 (.t 54) (.t 52), none⟩])
     (.seq (.ops true [⟨some 55, .mv (.t 0), none⟩, ⟨some 56, .mv (.t 4), none⟩, ⟨some 57, .bin .sub (.t 56) (.c (.int .i64 3)), none⟩, ⟨some 58, .mv (.t 0), none⟩, ⟨some 59, .mv (.t 4), none⟩, ⟨some 60, .bin .sub (.t 59) (.c (.int .i64 4)), none⟩, ⟨some 61, .mv (.t 8), none⟩, ⟨some 62, .bin .add (.t 61) (.c (.int .u32 1)), none⟩, ⟨some 63, .index (.c (.str [48, 48, 48, 49, 48, 50, 48, 51, 48, 52, 48, 53, 48, 54, 48, 55, 48, 56, 48, 57, 49, 48, 49, 49, 49, 50, 49, 51, 49, 52, 49, 53, 49, 54, 49, 55, 49, 56, 49, 57, 50, 48, 50, 49, 50, 50, 50, 51, 50, 52, 50, 53, 50, 54, 50, 55, 50, 56, 50, 57, 51, 48, 51, 49, 51, 50, 51, 51, 51, 52, 51, 53, 51, 54, 51, 55, 51, 56, 51, 57, 52, 48, 52, 49, 52, 50, 52, 51, 52, 52, 52, 53, 52, 54, 52, 55, 52, 56, 52, 57, 53, 48, 53, 49, 53, 50, 53, 51, 53, 52, 53, 53, 53, 54, 53, 55, 53, 56, 53, 57, 54, 48, 54, 49, 54, 50, 54, 51, 54, 52, 54, 53, 54, 54, 54, 55, 54, 56, 54, 57, 55, 48, 55, 49, 55, 50, 55, 51, 55, 52, 55, 53, 55, 54, 55, 55, 55, 56, 55, 57, 56, 48, 56, 49, 56, 50, 56, 51, 56, 52, 56, 53, 56, 54, 56, 55, 56, 56, 56, 57, 57, 48, 57, 49, 57, 50, 57, 51, 57, 52, 57, 53, 57, 54, 57, 55, 57, 56, 57, 57])) (.t 62), none⟩, ⟨some 64, .mv (.t 8), none⟩, ⟨some 65, .index (.c (.str [48, 48, 48, 49, 48, 50, 48, 51, 48, 52, 48, 53, 48, 54, 48, 55, 48, 56, 48, 57, 49, 48, 49, 49, 49, 50, 49, 51, 49, 52, 49, 53, 49, 54, 49, 55, 49, 56, 49, 57, 50, 48, 50, 49, 50, 50, 50, 51, 50, 52, 50, 53, 50, 54, 50, 55, 50, 56, 50, 57, 51, 48, 51, 49, 51, 50, 51, 51, 51, 52, 51, 53, 51, 54, 51, 55, 51, 56, 51, 57, 52, 48, 52, 49, 52, 50, 52, 51, 52, 52, 52, 53, 52, 54, 52, 55, 52, 56, 52, 57, 53, 48, 53, 49, 53, 50, 53, 51, 53, 52, 53, 53, 53, 54, 53, 55, 53, 56, 53, 57, 54, 48, 54, 49, 54, 50, 54, 51, 54, 52, 54, 53, 54, 54, 54, 55, 54, 56, 54, 57, 55, 48, 55, 49, 55, 50, 55, 51, 55, 52, 55, 53, 55, 54, 55, 55, 55, 56, 55, 57, 56, 48, 56, 49, 56, 50, 56, 51, 56, 52, 56, 53, 56, 54, 56, 55, 56, 56, 56, 57, 57, 48, 57, 49, 57, 50, 57, 51, 57, 52, 57, 53, 57, 54, 57, 55, 57, 56, 57, 57])) (.t 64), none⟩, ⟨some 66, .iaddr 1 (.t 55) (.t 57), none⟩, ⟨none, .store 1 (.t 66) (.t 63), none⟩, ⟨some 67, .iaddr 1 (.t 58) (.t 60), none⟩, ⟨none, .store 1 (.t 67) (.t 65), none⟩])
     (.seq (.ops true [⟨some 68, .mv (.t 0), none⟩, ⟨some 69, .mv (.t 4), none⟩, ⟨some 70, .bin .sub (.t 69) (.c (.int .i64 5)), none⟩, ⟨some 71, .mv (.t 0), none⟩, ⟨some 72, .mv (.t 4), none⟩, ⟨some 73, .bin .sub (.t 72) (.c (.int .i64 6)), none⟩, ⟨some 74, .mv (.t 11), none⟩, ⟨some 75, .bin .add (.t 74) (.c (.int .u32 1)), none⟩, ⟨some 76, .index (.c (.str [48, 48, 48, 49, 48, 50, 48, 51, 48, 52, 48, 53, 48, 54, 48, 55, 48, 56, 48, 57, 49, 48, 49, 49, 49, 50, 49, 51, 49, 52, 49, 53, 49, 54, 49, 55, 49, 56, 49, 57, 50, 48, 50, 49, 50, 50, 50, 51, 50, 52, 50, 53, 50, 54, 50, 55, 50, 56, 50, 57, 51, 48, 51, 49, 51, 50, 51, 51, 51, 52, 51, 53, 51, 54, 51, 55, 51, 56, 51, 57, 52, 48, 52, 49, 52, 50, 52, 51, 52, 52, 52, 53, 52, 54, 52, 55, 52, 56, 52, 57, 53, 48, 53, 49, 53, 50, 53, 51, 53, 52, 53, 53, 53, 54, 53, 55, 53, 56, 53, 57, 54, 48, 54, 49, 54, 50, 54, 51, 54, 52, 54, 53, 54, 54, 54, 55, 54, 56, 54, 57, 55, 48, 55, 49, 55, 50, 55, 51, 55, 52, 55, 53, 55, 54, 55, 55, 55, 56, 55, 57, 56, 48, 56, 49, 56, 50, 56, 51, 56, 52, 56, 53, 56, 54, 56, 55, 56, 56, 56, 57, 57, 48, 57, 49, 57, 50, 57, 51, 57, 52, 57, 53, 57, 54, 57, 55, 57, 56, 57, 57])) (.t 75), none⟩, ⟨some 77, .mv (.t 11), none⟩, ⟨some 78, .index (.c (.str [48, 48, 48, 49, 48, 50, 48, 51, 48, 52, 48, 53, 48, 54, 48, 55, 48, 56, 48, 57, 49, 48, 49, 49, 49, 50, 49, 51, 49, 52, 49, 53, 49, 54, 49, 55, 49, 56, 49, 57, 50, 48, 50, 49, 50, 50, 50, 51, 50, 52, 50, 53, 50, 54, 50, 55, 50, 56, 50, 57, 51, 48, 51, 49, 51, 50, 51, 51, 51, 52, 51, 53, 51, 54, 51, 55, 51, 56, 51, 57, 52, 48, 52, 49, 52, 50, 52, 51, 52, 52, 52, 53, 52, 54, 52, 55, 52, 56, 52, 57, 53, 48, 53, 49, 53, 50, 53, 51, 53, 52, 53, 53, 53, 54, 53, 55, 53, 56, 53, 57, 54, 48, 54, 49, 54, 50, 54, 51, 54, 52, 54, 53, 54, 54, 54, 55, 54, 56, 54, 57, 55, 48, 55, 49, 55, 50, 55, 51, 55, 52, 55, 53, 55, 54, 55, 55, 55, 56, 55, 57, 56, 48, 56, 49, 56, 50, 56, 51, 56, 52, 56, 53, 56, 54, 56, 55, 56, 56, 56, 57, 57, 48, 57, 49, 57, 50, 57, 51, 57, 52, 57, 53, 57, 54, 57, 55, 57, 56, 57, 57])) (.t 77), none⟩, ⟨some 79, .iaddr 1 (.t 68) (.t 70), none⟩, ⟨none, .store 1 (.t 79) (.t 76), none⟩, ⟨some 80, .iaddr 1 (.t 71) (.t 73), none⟩, ⟨none, .store 1 (.t 80) (.t 78), none⟩])
     (.seq (.ops true [⟨some 81, .mv (.t 0), none⟩, ⟨some 82, .mv (.t 4), none⟩, ⟨some 83, .bin .sub (.t 82) (.c (.int .i64 7)), none⟩, ⟨some 84, .mv (.t 0), none⟩, ⟨some 85, .mv (.t 4), none⟩, ⟨some 86, .bin .sub (.t 85) (.c (.int .i64 8)), none⟩, ⟨some 87, .mv (.t 10), none⟩, ⟨some 88, .bin .add (.t 87) (.c (.int .u32 1)), none⟩, ⟨some 89, .index (.c (.str [48, 48, 48, 49, 48, 50, 48, 51, 48, 52, 48, 53, 48, 54, 48, 55, 48, 56, 48, 57, 49, 48, 49, 49, 49, 50, 49, 51, 49, 52, 49, 53, 49, 54, 49, 55, 49, 56, 49, 57, 50, 48, 50, 49, 50, 50, 50, 51, 50, 52, 50, 53, 50, 54, 50, 55, 50, 56, 50, 57, 51, 48, 51, 49, 51, 50, 51, 51, 51, 52, 51, 53, 51, 54, 51, 55, 51, 56, 51, 57, 52, 48, 52, 49, 52, 50, 52, 51, 52, 52, 52, 53, 52, 54, 52, 55, 52, 56, 52, 57, 53, 48, 53, 49, 53, 50, 53, 51, 53, 52, 53, 53, 53, 54, 53, 55, 53, 56, 53, 57, 54, 48, 54, 49, 54, 50, 54, 51, 54, 52, 54, 53, 54, 54, 54, 55, 54, 56, 54, 57, 55, 48, 55, 49, 55, 50, 55, 51, 55, 52, 55, 53, 55, 54, 55, 55, 55, 56, 55, 57, 56, 48, 56, 49, 56, 50, 56, 51, 56, 52, 56, 53, 56, 54, 56, 55, 56, 56, 56, 57, 57, 48, 57, 49, 57, 50, 57, 51, 57, 52, 57, 53, 57, 54, 57, 55, 57, 56, 57, 57])) (.t 88), none⟩, ⟨some 90, .mv (.t 10), none⟩, ⟨some 91, .index (.c (.str [48, 48, 48, 49, 48, 50, 48, 51, 48, 52, 48, 53, 48, 54, 48, 55, 48, 56, 48, 57, 49, 48, 49, 49, 49, 50, 49, 51, 49, 52, 49, 53, 49, 54, 49, 55, 49, 56, 49, 57, 50, 48, 50, 49, 50, 50, 50, 51, 50, 52, 50, 53, 50, 54, 50, 55, 50, 56, 50, 57, 51, 48, 51, 49, 51, 50, 51, 51, 51, 52, 51, 53, 51, 54, 51, 55, 51, 56, 51, 57, 52, 48, 52, 49, 52, 50, 52, 51, 52, 52, 52, 53, 52, 54, 52, 55, 52, 56, 52, 57, 53, 48, 53, 49, 53, 50, 53, 51, 53, 52, 53, 53, 53, 54, 53, 55, 53, 56, 53, 57, 54, 48, 54, 49, 54, 50, 54, 51, 54, 52, 54, 53, 54, 54, 54, 55, 54, 56, 54, 57, 55, 48, 55, 49, 55, 50, 55, 51, 55, 52, 55, 53, 55, 54, 55, 55, 55, 56, 55, 57, 56, 48, 56, 49, 56, 50, 56, 51, 56, 52, 56, 53, 56, 54, 56, 55, 56, 56, 56, 57, 57, 48, 57, 49, 57, 50, 57, 51, 57, 52, 57, 53, 57, 54, 57, 55, 57, 56, 57, 57])) (.t 90), none⟩, ⟨some 92, .iaddr 1 (.t 81) (.t 83), none⟩, ⟨none, .store 1 (.t 92) (.t 89), none⟩, ⟨some 93, .iaddr 1 (.t 84) (.t 86), none⟩, ⟨none, .store 1 (.t 93) (.t 91), none⟩])
     (.ops false [⟨some 94, .mv (.t 4), none⟩, ⟨some 95, .bin .sub (.t 94) (.c (.int .i64 8)), none⟩, ⟨some 4, .mv (.t 95), none⟩]))))))))))))))
  (.seq (.ops false [⟨some 96, .mv (.t 1), none⟩, ⟨some 97, .conv .u32 (.t 96), none⟩, ⟨some 12, .mv (.t 97), none⟩])
  (.seq (.seq (.ops false [⟨some 98, .mv (.t 4), none⟩, ⟨some 99, .bin .geq (.t 98) (.c (.int .i64 4)), none⟩])
  (.cond (.t 99) (.seq (.ops false [⟨some 100, .mv (.t 12), none⟩, ⟨some 101, .bin .rem (.t 100) (.c (.int .u32 10000)), none⟩, ⟨some 13, .mv (.t 101), none⟩])
   (.seq (.ops false [⟨some 102, .mv (.t 12), none⟩, ⟨some 103, .bin .quo (.t 102) (.c (.int .u32 10000)), none⟩, ⟨some 12, .mv (.t 103), none⟩])
   (.seq (.ops false [⟨some 104, .mv (.t 13), none⟩, ⟨some 105, .bin .quo (.t 104) (.c (.int .u32 100)), none⟩, ⟨some 106, .bin .mul (.t 105) (.c (.int .u32 2)), none⟩, ⟨some 107, .mv (.t 13), none⟩, ⟨some 108, .bin .rem (.t 107) (.c (.int .u32 100)), none⟩, ⟨some 109, .bin .mul (.t 108) (.c (.int .u32 2)), none⟩, ⟨some 14, .mv (.t 106), none⟩, ⟨some 15, .mv (.t 109), none⟩])
   (.seq (.ops true [⟨some 110, .mv (.t 0), none⟩, ⟨some 111, .mv (.t 4), none⟩, ⟨some 112, .bin .sub (.t 111) (.c (.int .i64 1)), none⟩, ⟨some 113, .mv (.t 0), none⟩, ⟨some 114, .mv (.t 4), none⟩, ⟨some 115, .bin .sub (.t 114) (.c (.int .i64 2)), none⟩, ⟨some 116, .mv (.t 15), none⟩, ⟨some 117, .bin .add (.t 116) (.c (.int .u32 1)), none⟩, ⟨some 118, .index (.c (.str [48, 48, 48, 49, 48, 50, 48, 51, 48, 52, 48, 53, 48, 54, 48, 55, 48, 56, 48, 57, 49, 48, 49, 49, 49, 50, 49, 51, 49, 52, 49, 53, 49, 54, 49, 55, 49, 56, 49, 57, 50, 48, 50, 49, 50, 50, 50, 51, 50, 52, 50, 53, 50, 54, 50, 55, 50, 56, 50, 57, 51, 48, 51, 49, 51, 50, 51, 51, 51, 52, 51, 53, 51, 54, 51, 55, 51, 56, 51, 57, 52, 48, 52, 49, 52, 50, 52, 51, 52, 52, 52, 53, 52, 54, 52, 55, 52, 56, 52, 57, 53, 48, 53, 49, 53, 50, 53, 51, 53, 52, 53, 53, 53, 54, 53, 55, 53, 56, 53, 57, 54, 48, 54, 49, 54, 50, 54, 51, 54, 52, 54, 53, 54, 54, 54, 55, 54, 56, 54, 57, 55, 48, 55, 49, 55, 50, 55, 51, 55, 52, 55, 53, 55, 54, 55, 55, 55, 56, 55, 57, 56, 48, 56, 49, 56, 50, 56, 51, 56, 52, 56, 53, 56, 54, 56, 55, 56, 56, 56, 57, 57, 48, 57, 49, 57, 50, 57, 51, 57, 52, 57, 53, 57, 54, 57, 55, 57, 56, 57, 57])) (.t 117), none⟩, ⟨some 119, .mv (.t 15), none⟩, ⟨some 120, .index (.c (.str [48, 48, 48, 49, 48, 50, 48, 51, 48, 52, 48, 53, 48, 54, 48, 55, 48, 56, 48, 57, 49, 48, 49, 49, 49, 50, 49, 51, 49, 52, 49, 53, 49, 54, 49, 55, 49, 56, 49, 57, 50, 48, 50, 49, 50, 50, 50, 51, 50, 52, 50, 53, 50, 54, 50, 55, 50, 56, 50, 57, 51, 48, 51, 49, 51, 50, 51, 51, 51, 52, 51, 53, 51, 54, 51, 55, 51, 56, 51, 57, 52, 48, 52, 49, 52, 50, 52, 51, 52, 52, 52, 53, 52, 54, 52, 55, 52, 56, 52, 57, 53, 48, 53, 49, 53, 50, 53, 51, 53, 52, 53, 53, 53, 54, 53, 55, 53, 56, 53, 57, 54, 48, 54, 49, 54, 50, 54, 51, 54, 52, 54, 53, 54, 54, 54, 55, 54, 56, 54, 57, 55, 48, 55, 49, 55, 50, 55, 51, 55, 52, 55, 53, 55, 54, 55, 55, 55, 56, 55, 57, 56, 48, 56, 49, 56, 50, 56, 51, 56, 52, 56, 53, 56, 54, 56, 55, 56, 56, 56, 57, 57, 48, 57, 49, 57, 50, 57, 51, 57, 52, 57, 53, 57, 54, 57, 55, 57, 56, 57, 57])) (.t 119), none⟩, ⟨some 121, .iaddr 1 (.t 110) (.t 112), none⟩, ⟨none, .store 1 (.t 121) (.t 118), none⟩, ⟨some 122, .iaddr 1 (.t 113) (.t 115), none⟩, ⟨none, .store 1 (.t 122) (.t 120), none⟩])
   (.seq (.ops true [⟨some 123, .mv (.t 0), none⟩, ⟨some 124, .mv (.t 4), none⟩, ⟨some 125, .bin .sub (.t 124) (.c (.int .i64 3)), none⟩, ⟨some 126, .mv (.t 0), none⟩, ⟨some 127, .mv (.t 4), none⟩, ⟨some 128, .bin .sub (.t 127) (.c (.int .i64 4)), none⟩, ⟨some 129, .mv (.t 14), none⟩, ⟨some 130, .bin .add (.t 129) (.c (.int .u32 1)), none⟩, ⟨some 131, .index (.c (.str [48, 48, 48, 49, 48, 50, 48, 51, 48, 52, 48, 53, 48, 54, 48, 55, 48, 56, 48, 57, 49, 48, 49, 49, 49, 50, 49, 51, 49, 52, 49, 53, 49, 54, 49, 55, 49, 56, 49, 57, 50, 48, 50, 49, 50, 50, 50, 51, 50, 52, 50, 53, 50, 54, 50, 55, 50, 56, 50, 57, 51, 48, 51, 49, 51, 50, 51, 51, 51, 52, 51, 53, 51, 54, 51, 55, 51, 56, 51, 57, 52, 48, 52, 49, 52, 50, 52, 51, 52, 52, 52, 53, 52, 54, 52, 55, 52, 56, 52, 57, 53, 48, 53, 49, 53, 50, 53, 51, 53, 52, 53, 53, 53, 54, 53, 55, 53, 56, 53, 57, 54, 48, 54, 49, 54, 50, 54, 51, 54, 52, 54, 53, 54, 54, 54, 55, 54, 56, 54, 57, 55, 48, 55, 49, 55, 50, 55, 51, 55, 52, 55, 53, 55, 54, 55, 55, 55, 56, 55, 57, 56, 48, 56, 49, 56, 50, 56, 51, 56, 52, 56, 53, 56, 54, 56, 55, 56, 56, 56, 57, 57, 48, 57, 49, 57, 50, 57, 51, 57, 52, 57, 53, 57, 54, 57, 55, 57, 56, 57, 57])) (.t 130), none⟩, ⟨some 132, .mv (.t 14), none⟩, ⟨some 133, .index (.c (.str [48, 48, 48, 49, 48, 50, 48, 51, 48, 52, 48, 53, 48, 54, 48, 55, 48, 56, 48, 57, 49, 48, 49, 49, 49, 50, 49, 51, 49, 52, 49, 53, 49, 54, 49, 55, 49, 56, 49, 57, 50, 48, 50, 49, 50, 50, 50, 51, 50, 52, 50, 53, 50, 54, 50, 55, 50, 56, 50, 57, 51, 48, 51, 49, 51, 50, 51, 51, 51, 52, 51, 53, 51, 54, 51, 55, 51, 56, 51, 57, 52, 48, 52, 49, 52, 50, 52, 51, 52, 52, 52, 53, 52, 54, 52, 55, 52, 56, 52, 57, 53, 48, 53, 49, 53, 50, 53, 51, 53, 52, 53, 53, 53, 54, 53, 55, 53, 56, 53, 57, 54, 48, 54, 49, 54, 50, 54, 51, 54, 52, 54, 53, 54, 54, 54, 55, 54, 56, 54, 57, 55, 48, 55, 49, 55, 50, 55, 51, 55, 52, 55, 53, 55, 54, 55, 55, 55, 56, 55, 57, 56, 48, 56, 49, 56, 50, 56, 51, 56, 52, 56, 53, 56, 54, 56, 55, 56, 56, 56, 57, 57, 48, 57, 49, 57, 50, 57, 51, 57, 52, 57, 53, 57, 54, 57, 55, 57, 56, 57, 57])) (.t 132), none⟩, ⟨some 134, .iaddr 1 (.t 123) (.t 125), none⟩, ⟨none, .store 1 (.t 134) (.t 131), none⟩, ⟨some 135, .iaddr 1 (.t 126) (.t 128), none⟩, ⟨none, .store 1 (.t 135) (.t 133), none⟩])
   (.ops false [⟨some 136, .mv (.t 4), none⟩, ⟨some 137, .bin .sub (.t 136) (.c (.int .i64 4)), none⟩, ⟨some 4, .mv (.t 137), none⟩]))))))
   (.skip)))
  (.seq (.seq (.ops false [⟨some 138, .mv (.t 4), none⟩, ⟨some 139, .bin .geq (.t 138) (.c (.int .i64 2)), none⟩])
  (.cond (.t 139) (.seq (.ops false [⟨some 140, .mv (.t 12), none⟩, ⟨some 141, .bin .rem (.t 140) (.c (.int .u32 100)), none⟩, ⟨some 142, .bin .mul (.t 141) (.c (.int .u32 2)), none⟩, ⟨some 16, .mv (.t 142), none⟩])
   (.seq (.ops false [⟨some 143, .mv (.t 12), none⟩, ⟨some 144, .bin .quo (.t 143) (.c (.int .u32 100)), none⟩, ⟨some 12, .mv (.t 144), none⟩])
   (.seq (.ops true [⟨some 145, .mv (.t 0), none⟩, ⟨some 146, .mv (.t 4), none⟩, ⟨some 147, .bin .sub (.t 146) (.c (.int .i64 1)), none⟩, ⟨some 148, .mv (.t 0), none⟩, ⟨some 149, .mv (.t 4), none⟩, ⟨some 150, .bin .sub (.t 149) (.c (.int .i64 2)), none⟩, ⟨some 151, .mv (.t 16), none⟩, ⟨some 152, .bin .add (.t 151) (.c (.int .u32 1)), none⟩, ⟨some 153, .index (.c (.str [48, 48, 48, 49, 48, 50, 48, 51, 48, 52, 48, 53, 48, 54, 48, 55, 48, 56, 48, 57, 49, 48, 49, 49, 49, 50, 49, 51, 49, 52, 49, 53, 49, 54, 49, 55, 49, 56, 49, 57, 50, 48, 50, 49, 50, 50, 50, 51, 50, 52, 50, 53, 50, 54, 50, 55, 50, 56, 50, 57, 51, 48, 51, 49, 51, 50, 51, 51, 51, 52, 51, 53, 51, 54, 51, 55, 51, 56, 51, 57, 52, 48, 52, 49, 52, 50, 52, 51, 52, 52, 52, 53, 52, 54, 52, 55, 52, 56, 52, 57, 53, 48, 53, 49, 53, 50, 53, 51, 53, 52, 53, 53, 53, 54, 53, 55, 53, 56, 53, 57, 54, 48, 54, 49, 54, 50, 54, 51, 54, 52, 54, 53, 54, 54, 54, 55, 54, 56, 54, 57, 55, 48, 55, 49, 55, 50, 55, 51, 55, 52, 55, 53, 55, 54, 55, 55, 55, 56, 55, 57, 56, 48, 56, 49, 56, 50, 56, 51, 56, 52, 56, 53, 56, 54, 56, 55, 56, 56, 56, 57, 57, 48, 57, 49, 57, 50, 57, 51, 57, 52, 57, 53, 57, 54, 57, 55, 57, 56, 57, 57])) (.t 152), none⟩, ⟨some 154, .mv (.t 16), none⟩, ⟨some 155, .index (.c (.str [48, 48, 48, 49, 48, 50, 48, 51, 48, 52, 48, 53, 48, 54, 48, 55, 48, 56, 48, 57, 49, 48, 49, 49, 49, 50, 49, 51, 49, 52, 49, 53, 49, 54, 49, 55, 49, 56, 49, 57, 50, 48, 50, 49, 50, 50, 50, 51, 50, 52, 50, 53, 50, 54, 50, 55, 50, 56, 50, 57, 51, 48, 51, 49, 51, 50, 51, 51, 51, 52, 51, 53, 51, 54, 51, 55, 51, 56, 51, 57, 52, 48, 52, 49, 52, 50, 52, 51, 52, 52, 52, 53, 52, 54, 52, 55, 52, 56, 52, 57, 53, 48, 53, 49, 53, 50, 53, 51, 53, 52, 53, 53, 53, 54, 53, 55, 53, 56, 53, 57, 54, 48, 54, 49, 54, 50, 54, 51, 54, 52, 54, 53, 54, 54, 54, 55, 54, 56, 54, 57, 55, 48, 55, 49, 55, 50, 55, 51, 55, 52, 55, 53, 55, 54, 55, 55, 55, 56, 55, 57, 56, 48, 56, 49, 56, 50, 56, 51, 56, 52, 56, 53, 56, 54, 56, 55, 56, 56, 56, 57, 57, 48, 57, 49, 57, 50, 57, 51, 57, 52, 57, 53, 57, 54, 57, 55, 57, 56, 57, 57])) (.t 154), none⟩, ⟨some 156, .iaddr 1 (.t 145) (.t 147), none⟩, ⟨none, .store 1 (.t 156) (.t 153), none⟩, ⟨some 157, .iaddr 1 (.t 148) (.t 150), none⟩, ⟨none, .store 1 (.t 157) (.t 155), none⟩])
   (.ops false [⟨some 158, .mv (.t 4), none⟩, ⟨some 159, .bin .sub (.t 158) (.c (.int .i64 2)), none⟩, ⟨some 4, .mv (.t 159), none⟩]))))
   (.skip)))
  (.seq (.ops false [⟨some 160, .mv (.t 4), none⟩, ⟨some 161, .bin .gtr (.t 160) (.c (.int .i64 0)), none⟩])
  (.cond (.t 161) (.ops false [⟨some 162, .mv (.t 0), none⟩, ⟨some 163, .mv (.t 12), none⟩, ⟨some 164, .bin .add (.c (.int .u32 48)) (.t 163), none⟩, ⟨some 165, .conv .u8 (.t 164), none⟩, ⟨some 166, .iaddr 1 (.t 162) (.c (.int .i64 0)), none⟩, ⟨none, .store 1 (.t 166) (.t 165), none⟩])
   (.skip))))))),
  []⟩

/- internal/strconv.formatBits -/
def d_internal_strconv_formatBits : DFun := ⟨
  .seq (.ops false [⟨some 10, .mv (.c (.nil)), none⟩, ⟨some 11, .mv (.c (.str [])), none⟩])
  (.seq (.seq (.ops false [⟨some 19, .mv (.t 2), none⟩, ⟨some 20, .bin .lss (.t 19) (.c (.int .i64 2)), none⟩, ⟨some 21, .mv (.t 20), none⟩, ⟨some 22, .mv (.t 2), some (21, false)⟩, ⟨some 23, .bin .eql (.t 22) (.c (.int .i64 10)), some (21, false)⟩, ⟨some 24, .pick (.t 21) (.c (.bool true)) (.t 23), none⟩, ⟨some 25, .mv (.t 24), none⟩, ⟨some 26, .mv (.t 2), some (25, false)⟩, ⟨some 27, .bin .gtr (.t 26) (.c (.int .i64 36)), some (25, false)⟩, ⟨some 28, .pick (.t 25) (.c (.bool true)) (.t 27), none⟩])
  (.cond (.t 28) (.ops false [⟨some 29, .bad, none⟩, ⟨none, .bad, none⟩])
   (.skip)))
  (.seq (.ops false [⟨some 12, .alloc [.int .u8 0, .int .u8 0, .int .u8 0, .int .u8 0, .int .u8 0, .int .u8 0, .int .u8 0, .int .u8 0, .int .u8 0, .int .u8 0, .int .u8 0, .int .u8 0, .int .u8 0, .int .u8 0, .int .u8 0, .int .u8 0, .int .u8 0, .int .u8 0, .int .u8 0, .int .u8 0, .int .u8 0, .int .u8 0, .int .u8 0, .int .u8 0, .int .u8 0, .int .u8 0, .int .u8 0, .int .u8 0, .int .u8 0, .int .u8 0, .int .u8 0, .int .u8 0, .int .u8 0, .int .u8 0, .int .u8 0, .int .u8 0, .int .u8 0, .int .u8 0, .int .u8 0, .int .u8 0, .int .u8 0, .int .u8 0, .int .u8 0, .int .u8 0, .int .u8 0, .int .u8 0, .int .u8 0, .int .u8 0, .int .u8 0, .int .u8 0, .int .u8 0, .int .u8 0, .int .u8 0, .int .u8 0, .int .u8 0, .int .u8 0, .int .u8 0, .int .u8 0, .int .u8 0, .int .u8 0, .int .u8 0, .int .u8 0, .int .u8 0, .int .u8 0, .int .u8 0], none⟩])
  (.seq (.ops false [⟨some 13, .mv (.c (.int .i64 65)), none⟩])
  (.seq (.seq (.ops false [⟨some 30, .mv (.t 3), none⟩])
  (.cond (.t 30) (.ops false [⟨some 31, .mv (.t 1), none⟩, ⟨some 32, .un .neg (.t 31), none⟩, ⟨some 1, .mv (.t 32), none⟩])
   (.skip)))
  (.seq (.seq (.ops false [⟨some 33, .mv (.t 2), none⟩, ⟨some 34, .callP 57 [(.t 33)], none⟩])
  (.cond (.t 34) (.seq (.ops false [⟨some 35, .mv (.t 2), none⟩, ⟨some 36, .conv .u64 (.t 35), none⟩, ⟨some 37, .callP 58 [(.t 36)], none⟩, ⟨some 38, .conv .u64 (.t 37), none⟩, ⟨some 14, .mv (.t 38), none⟩])
   (.seq (.ops false [⟨some 39, .mv (.t 2), none⟩, ⟨some 40, .conv .u64 (.t 39), none⟩, ⟨some 15, .mv (.t 40), none⟩])
   (.seq (.ops false [⟨some 41, .mv (.t 2), none⟩, ⟨some 42, .conv .u64 (.t 41), none⟩, ⟨some 43, .bin .sub (.t 42) (.c (.int .u64 1)), none⟩, ⟨some 16, .mv (.t 43), none⟩])
   (.seq (.block 0 (.loop [0, 1, 3, 4, 10, 11, 12, 13, 14, 15, 16] (some 1) (.seq (.seq (.ops false [⟨some 44, .mv (.t 1), none⟩, ⟨some 45, .mv (.t 15), none⟩, ⟨some 46, .bin .geq (.t 44) (.t 45), none⟩])
     (.cond (.t 46) (.skip)
      (.exit 0)))
     (.block 1 (.seq (.ops false [⟨some 47, .mv (.t 13), none⟩, ⟨some 48, .bin .sub (.t 47) (.c (.int .i64 1)), none⟩, ⟨some 13, .mv (.t 48), none⟩])
      (.seq (.ops false [⟨some 49, .mv (.t 13), none⟩, ⟨some 50, .mv (.t 1), none⟩, ⟨some 51, .mv (.t 16), none⟩, ⟨some 52, .bin .and (.t 50) (.t 51), none⟩, ⟨some 53, .index (.c (.str [48, 49, 50, 51, 52, 53, 54, 55, 56, 57, 97, 98, 99, 100, 101, 102, 103, 104, 105, 106, 107, 108, 109, 110, 111, 112, 113, 114, 115, 116, 117, 118, 119, 120, 121, 122])) (.t 52), none⟩, ⟨some 54, .iaddrA 65 1 (.t 12) (.t 49), none⟩, ⟨none, .store 1 (.t 54) (.t 53), none⟩])
      (.ops false [⟨some 55, .mv (.t 1), none⟩, ⟨some 56, .mv (.t 14), none⟩, ⟨some 57, .bin .shr (.t 55) (.t 56), none⟩, ⟨some 1, .mv (.t 57), none⟩])))))))
   (.seq (.ops false [⟨some 58, .mv (.t 13), none⟩, ⟨some 59, .bin .sub (.t 58) (.c (.int .i64 1)), none⟩, ⟨some 13, .mv (.t 59), none⟩])
   (.ops false [⟨some 60, .mv (.t 13), none⟩, ⟨some 61, .mv (.t 1), none⟩, ⟨some 62, .index (.c (.str [48, 49, 50, 51, 52, 53, 54, 55, 56, 57, 97, 98, 99, 100, 101, 102, 103, 104, 105, 106, 107, 108, 109, 110, 111, 112, 113, 114, 115, 116, 117, 118, 119, 120, 121, 122])) (.t 61), none⟩, ⟨some 63, .iaddrA 65 1 (.t 12) (.t 60), none⟩, ⟨none, .store 1 (.t 63) (.t 62), none⟩]))))))
   (.seq (.ops false [⟨some 64, .mv (.t 2), none⟩, ⟨some 65, .conv .u64 (.t 64), none⟩, ⟨some 17, .mv (.t 65), none⟩])
   (.seq (.block 2 (.loop [0, 1, 3, 4, 10, 11, 12, 13, 17] (some 1) (.seq (.seq (.ops false [⟨some 66, .mv (.t 1), none⟩, ⟨some 67, .mv (.t 17), none⟩, ⟨some 68, .bin .geq (.t 66) (.t 67), none⟩])
     (.cond (.t 68) (.skip)
      (.exit 2)))
     (.block 3 (.seq (.ops false [⟨some 69, .mv (.t 13), none⟩, ⟨some 70, .bin .sub (.t 69) (.c (.int .i64 1)), none⟩, ⟨some 13, .mv (.t 70), none⟩])
      (.seq (.ops false [⟨some 71, .mv (.t 1), none⟩, ⟨some 72, .mv (.t 17), none⟩, ⟨some 73, .bin .quo (.t 71) (.t 72), none⟩, ⟨some 18, .mv (.t 73), none⟩])
      (.seq (.ops false [⟨some 74, .mv (.t 13), none⟩, ⟨some 75, .mv (.t 1), none⟩, ⟨some 76, .mv (.t 18), none⟩, ⟨some 77, .mv (.t 17), none⟩, ⟨some 78, .bin .mul (.t 76) (.t 77), none⟩, ⟨some 79, .bin .sub (.t 75) (.t 78), none⟩, ⟨some 80, .index (.c (.str [48, 49, 50, 51, 52, 53, 54, 55, 56, 57, 97, 98, 99, 100, 101, 102, 103, 104, 105, 106, 107, 108, 109, 110, 111, 112, 113, 114, 115, 116, 117, 118, 119, 120, 121, 122])) (.t 79), none⟩, ⟨some 81, .iaddrA 65 1 (.t 12) (.t 74), none⟩, ⟨none, .store 1 (.t 81) (.t 80), none⟩])
      (.ops false [⟨some 82, .mv (.t 18), none⟩, ⟨some 1, .mv (.t 82), none⟩]))))))))
   (.seq (.ops false [⟨some 83, .mv (.t 13), none⟩, ⟨some 84, .bin .sub (.t 83) (.c (.int .i64 1)), none⟩, ⟨some 13, .mv (.t 84), none⟩])
   (.ops false [⟨some 85, .mv (.t 13), none⟩, ⟨some 86, .mv (.t 1), none⟩, ⟨some 87, .index (.c (.str [48, 49, 50, 51, 52, 53, 54, 55, 56, 57, 97, 98, 99, 100, 101, 102, 103, 104, 105, 106, 107, 108, 109, 110, 111, 112, 113, 114, 115, 116, 117, 118, 119, 120, 121, 122])) (.t 86), none⟩, ⟨some 88, .iaddrA 65 1 (.t 12) (.t 85), none⟩, ⟨none, .store 1 (.t 88) (.t 87), none⟩]))))))
  (.seq (.seq (.ops false [⟨some 89, .mv (.t 3), none⟩])
  (.cond (.t 89) (.seq (.ops false [⟨some 90, .mv (.t 13), none⟩, ⟨some 91, .bin .sub (.t 90) (.c (.int .i64 1)), none⟩, ⟨some 13, .mv (.t 91), none⟩])
   (.ops false [⟨some 92, .mv (.t 13), none⟩, ⟨some 93, .iaddrA 65 1 (.t 12) (.t 92), none⟩, ⟨none, .store 1 (.t 93) (.c (.int .u8 45)), none⟩]))
   (.skip)))
  (.seq (.seq (.ops false [⟨some 94, .mv (.t 4), none⟩])
  (.cond (.t 94) (.seq (.ops false [⟨some 95, .mv (.t 0), none⟩, ⟨some 96, .mv (.t 13), none⟩, ⟨some 97, .bad, none⟩, ⟨some 98, .append 1 (.t 95) (.t 97), none⟩, ⟨some 10, .mv (.t 98), none⟩])
   (.ret))
   (.skip)))
  (.seq (.ops false [⟨some 99, .mv (.t 13), none⟩, ⟨some 100, .bad, none⟩, ⟨some 101, .b2s (.t 100), none⟩, ⟨some 11, .mv (.t 101), none⟩])
  (.ret))))))))),
  [.t 10, .t 11]⟩

/- internal/strconv.log10Pow2 -/
def d_internal_strconv_log10Pow2 : DFun := ⟨
  .seq (.ops false [⟨some 2, .mv (.c (.int .i64 0)), none⟩])
  (.seq (.ops false [⟨some 3, .mv (.t 0), none⟩, ⟨some 4, .bin .mul (.t 3) (.c (.int .i64 78913)), none⟩, ⟨some 5, .bin .shr (.t 4) (.c (.int .u64 18)), none⟩, ⟨some 2, .mv (.t 5), none⟩])
  (.ret)),
  [.t 2]⟩

/- math/bits.Len64 -/
def d_math_bits_Len64 : DFun := ⟨
  .seq (.ops false [⟨some 2, .mv (.c (.int .i64 0)), none⟩])
  (.seq (.seq (.ops false [⟨some 3, .mv (.t 0), none⟩, ⟨some 4, .bin .geq (.t 3) (.c (.int .u64 4294967296)), none⟩])
  (.cond (.t 4) (.seq (.ops false [⟨some 5, .mv (.t 0), none⟩, ⟨some 6, .bin .shr (.t 5) (.c (.int .u64 32)), none⟩, ⟨some 0, .mv (.t 6), none⟩])
   (.ops false [⟨some 2, .mv (.c (.int .i64 32)), none⟩]))
   (.skip)))
  (.seq (.seq (.ops false [⟨some 7, .mv (.t 0), none⟩, ⟨some 8, .bin .geq (.t 7) (.c (.int .u64 65536)), none⟩])
  (.cond (.t 8) (.seq (.ops false [⟨some 9, .mv (.t 0), none⟩, ⟨some 10, .bin .shr (.t 9) (.c (.int .u64 16)), none⟩, ⟨some 0, .mv (.t 10), none⟩])
   (.ops false [⟨some 11, .mv (.t 2), none⟩, ⟨some 12, .bin .add (.t 11) (.c (.int .i64 16)), none⟩, ⟨some 2, .mv (.t 12), none⟩]))
   (.skip)))
  (.seq (.seq (.ops false [⟨some 13, .mv (.t 0), none⟩, ⟨some 14, .bin .geq (.t 13) (.c (.int .u64 256)), none⟩])
  (.cond (.t 14) (.seq (.ops false [⟨some 15, .mv (.t 0), none⟩, ⟨some 16, .bin .shr (.t 15) (.c (.int .u64 8)), none⟩, ⟨some 0, .mv (.t 16), none⟩])
   (.ops false [⟨some 17, .mv (.t 2), none⟩, ⟨some 18, .bin .add (.t 17) (.c (.int .i64 8)), none⟩, ⟨some 2, .mv (.t 18), none⟩]))
   (.skip)))
  (.seq (.ops false [⟨some 19, .mv (.t 2), none⟩, ⟨some 20, .mv (.t 0), none⟩, ⟨some 21, .conv .u8 (.t 20), none⟩, ⟨some 22, .index (.c (.str [0, 1, 2, 2, 3, 3, 3, 3, 4, 4, 4, 4, 4, 4, 4, 4, 5, 5, 5, 5, 5, 5, 5, 5, 5, 5, 5, 5, 5, 5, 5, 5, 6, 6, 6, 6, 6, 6, 6, 6, 6, 6, 6, 6, 6, 6, 6, 6, 6, 6, 6, 6, 6, 6, 6, 6, 6, 6, 6, 6, 6, 6, 6, 6, 7, 7, 7, 7, 7, 7, 7, 7, 7, 7, 7, 7, 7, 7, 7, 7, 7, 7, 7, 7, 7, 7, 7, 7, 7, 7, 7, 7, 7, 7, 7, 7, 7, 7, 7, 7, 7, 7, 7, 7, 7, 7, 7, 7, 7, 7, 7, 7, 7, 7, 7, 7, 7, 7, 7, 7, 7, 7, 7, 7, 7, 7, 7, 7, 8, 8, 8, 8, 8, 8, 8, 8, 8, 8, 8, 8, 8, 8, 8, 8, 8, 8, 8, 8, 8, 8, 8, 8, 8, 8, 8, 8, 8, 8, 8, 8, 8, 8, 8, 8, 8, 8, 8, 8, 8, 8, 8, 8, 8, 8, 8, 8, 8, 8, 8, 8, 8, 8, 8, 8, 8, 8, 8, 8, 8, 8, 8, 8, 8, 8, 8, 8, 8, 8, 8, 8, 8, 8, 8, 8, 8, 8, 8, 8, 8, 8, 8, 8, 8, 8, 8, 8, 8, 8, 8, 8, 8, 8, 8, 8, 8, 8, 8, 8, 8, 8, 8, 8, 8, 8, 8, 8, 8, 8, 8, 8, 8, 8, 8, 8, 8, 8, 8, 8, 8, 8, 8, 8, 8, 8, 8, 8])) (.t 21), none⟩, ⟨some 23, .conv .i64 (.t 22), none⟩, ⟨some 24, .bin .add (.t 19) (.t 23), none⟩, ⟨some 2, .mv (.t 24), none⟩])
  (.ret))))),
  [.t 2]⟩

/- internal/strconv.bool2[int] -/
def d_internal_strconv_bool2_int : DFun := ⟨
  .seq (.ops false [⟨some 2, .mv (.c (.int .i64 0)), none⟩])
  (.seq (.seq (.ops false [⟨some 3, .mv (.t 0), none⟩])
  (.cond (.t 3) (.seq (.ops false [⟨some 2, .mv (.c (.int .i64 1)), none⟩])
   (.ret))
   (.skip)))
  (.seq (.ops false [⟨some 2, .mv (.c (.int .i64 0)), none⟩])
  (.ret))),
  [.t 2]⟩

/- internal/strconv.isPowerOfTwo -/
def d_internal_strconv_isPowerOfTwo : DFun := ⟨
  .seq (.ops false [⟨some 2, .mv (.c (.bool false)), none⟩])
  (.seq (.ops false [⟨some 3, .mv (.t 0), none⟩, ⟨some 4, .mv (.t 0), none⟩, ⟨some 5, .bin .sub (.t 4) (.c (.int .i64 1)), none⟩, ⟨some 6, .bin .and (.t 3) (.t 5), none⟩, ⟨some 7, .bin .eql (.t 6) (.c (.int .i64 0)), none⟩, ⟨some 2, .mv (.t 7), none⟩])
  (.ret)),
  [.t 2]⟩

/- math/bits.TrailingZeros -/
def d_math_bits_TrailingZeros : DFun := ⟨
  .seq (.ops false [⟨some 2, .mv (.c (.int .i64 0)), none⟩])
  (.seq (.cond (.c (.bool false)) (.seq (.ops false [⟨some 3, .mv (.t 0), none⟩, ⟨some 4, .conv .u32 (.t 3), none⟩, ⟨some 5, .callP 59 [(.t 4)], none⟩, ⟨some 2, .mv (.t 5), none⟩])
   (.ret))
   (.skip))
  (.seq (.ops false [⟨some 6, .mv (.t 0), none⟩, ⟨some 7, .callP 60 [(.t 6)], none⟩, ⟨some 2, .mv (.t 7), none⟩])
  (.ret))),
  [.t 2]⟩

/- math/bits.TrailingZeros32 -/
def d_math_bits_TrailingZeros32 : DFun := ⟨
  .seq (.ops false [⟨some 2, .mv (.c (.int .i64 0)), none⟩])
  (.seq (.seq (.ops false [⟨some 3, .mv (.t 0), none⟩, ⟨some 4, .bin .eql (.t 3) (.c (.int .u32 0)), none⟩])
  (.cond (.t 4) (.seq (.ops false [⟨some 2, .mv (.c (.int .i64 32)), none⟩])
   (.ret))
   (.skip)))
  (.seq (.ops false [⟨some 5, .mv (.t 0), none⟩, ⟨some 6, .mv (.t 0), none⟩, ⟨some 7, .un .neg (.t 6), none⟩, ⟨some 8, .bin .and (.t 5) (.t 7), none⟩, ⟨some 9, .bin .mul (.t 8) (.c (.int .u32 125613361)), none⟩, ⟨some 10, .bin .shr (.t 9) (.c (.int .u64 27)), none⟩, ⟨some 11, .bad, none⟩, ⟨some 12, .load none (.t 11), none⟩, ⟨some 13, .conv .i64 (.t 12), none⟩, ⟨some 2, .mv (.t 13), none⟩])
  (.ret))),
  [.t 2]⟩

/- math/bits.TrailingZeros64 -/
def d_math_bits_TrailingZeros64 : DFun := ⟨
  .seq (.ops false [⟨some 2, .mv (.c (.int .i64 0)), none⟩])
  (.seq (.seq (.ops false [⟨some 3, .mv (.t 0), none⟩, ⟨some 4, .bin .eql (.t 3) (.c (.int .u64 0)), none⟩])
  (.cond (.t 4) (.seq (.ops false [⟨some 2, .mv (.c (.int .i64 64)), none⟩])
   (.ret))
   (.skip)))
  (.seq (.ops false [⟨some 5, .mv (.t 0), none⟩, ⟨some 6, .mv (.t 0), none⟩, ⟨some 7, .un .neg (.t 6), none⟩, ⟨some 8, .bin .and (.t 5) (.t 7), none⟩, ⟨some 9, .bin .mul (.t 8) (.c (.int .u64 285870213051353865)), none⟩, ⟨some 10, .bin .shr (.t 9) (.c (.int .u64 58)), none⟩, ⟨some 11, .bad, none⟩, ⟨some 12, .load none (.t 11), none⟩, ⟨some 13, .conv .i64 (.t 12), none⟩, ⟨some 2, .mv (.t 13), none⟩])
  (.ret))),
  [.t 2]⟩

/- gosem.cut.vars -/
def d_gosem_cut_vars : DFun := ⟨
  .seq (.ops false [⟨some 0, .build [.int .u8 0, .int .u8 0, .int .u8 0, .int .u8 0, .int .u8 0, .int .u8 0, .int .u8 0, .int .u8 0, .int .u8 0, .int .u8 0, .int .u8 0, .int .u8 0, .int .u8 0, .int .u8 0, .int .u8 0, .int .u8 0, .int .u8 0, .int .u8 0, .int .u8 0, .int .u8 0, .int .u8 0, .int .u8 0, .int .u8 0, .int .u8 0, .int .u8 0, .int .u8 0, .int .u8 0, .int .u8 0, .int .u8 0, .int .u8 0, .int .u8 0, .int .u8 0] [(0, 1, (.c (.int .u8 0))), (1, 1, (.c (.int .u8 1))), (2, 1, (.c (.int .u8 28))), (3, 1, (.c (.int .u8 2))), (4, 1, (.c (.int .u8 29))), (5, 1, (.c (.int .u8 14))), (6, 1, (.c (.int .u8 24))), (7, 1, (.c (.int .u8 3))), (8, 1, (.c (.int .u8 30))), (9, 1, (.c (.int .u8 22))), (10, 1, (.c (.int .u8 20))), (11, 1, (.c (.int .u8 15))), (12, 1, (.c (.int .u8 25))), (13, 1, (.c (.int .u8 17))), (14, 1, (.c (.int .u8 4))), (15, 1, (.c (.int .u8 8))), (16, 1, (.c (.int .u8 31))), (17, 1, (.c (.int .u8 27))), (18, 1, (.c (.int .u8 13))), (19, 1, (.c (.int .u8 23))), (20, 1, (.c (.int .u8 21))), (21, 1, (.c (.int .u8 19))), (22, 1, (.c (.int .u8 16))), (23, 1, (.c (.int .u8 7))), (24, 1, (.c (.int .u8 26))), (25, 1, (.c (.int .u8 12))), (26, 1, (.c (.int .u8 18))), (27, 1, (.c (.int .u8 6))), (28, 1, (.c (.int .u8 11))), (29, 1, (.c (.int .u8 5))), (30, 1, (.c (.int .u8 10))), (31, 1, (.c (.int .u8 9)))], none⟩, ⟨none, .bad, none⟩])
  (.seq (.ops false [⟨some 1, .build [.int .u8 0, .int .u8 0, .int .u8 0, .int .u8 0, .int .u8 0, .int .u8 0, .int .u8 0, .int .u8 0, .int .u8 0, .int .u8 0, .int .u8 0, .int .u8 0, .int .u8 0, .int .u8 0, .int .u8 0, .int .u8 0, .int .u8 0, .int .u8 0, .int .u8 0, .int .u8 0, .int .u8 0, .int .u8 0, .int .u8 0, .int .u8 0, .int .u8 0, .int .u8 0, .int .u8 0, .int .u8 0, .int .u8 0, .int .u8 0, .int .u8 0, .int .u8 0, .int .u8 0, .int .u8 0, .int .u8 0, .int .u8 0, .int .u8 0, .int .u8 0, .int .u8 0, .int .u8 0, .int .u8 0, .int .u8 0, .int .u8 0, .int .u8 0, .int .u8 0, .int .u8 0, .int .u8 0, .int .u8 0, .int .u8 0, .int .u8 0, .int .u8 0, .int .u8 0, .int .u8 0, .int .u8 0, .int .u8 0, .int .u8 0, .int .u8 0, .int .u8 0, .int .u8 0, .int .u8 0, .int .u8 0, .int .u8 0, .int .u8 0, .int .u8 0] [(0, 1, (.c (.int .u8 0))), (1, 1, (.c (.int .u8 1))), (2, 1, (.c (.int .u8 56))), (3, 1, (.c (.int .u8 2))), (4, 1, (.c (.int .u8 57))), (5, 1, (.c (.int .u8 49))), (6, 1, (.c (.int .u8 28))), (7, 1, (.c (.int .u8 3))), (8, 1, (.c (.int .u8 61))), (9, 1, (.c (.int .u8 58))), (10, 1, (.c (.int .u8 42))), (11, 1, (.c (.int .u8 50))), (12, 1, (.c (.int .u8 38))), (13, 1, (.c (.int .u8 29))), (14, 1, (.c (.int .u8 17))), (15, 1, (.c (.int .u8 4))), (16, 1, (.c (.int .u8 62))), (17, 1, (.c (.int .u8 47))), (18, 1, (.c (.int .u8 59))), (19, 1, (.c (.int .u8 36))), (20, 1, (.c (.int .u8 45))), (21, 1, (.c (.int .u8 43))), (22, 1, (.c (.int .u8 51))), (23, 1, (.c (.int .u8 22))), (24, 1, (.c (.int .u8 53))), (25, 1, (.c (.int .u8 39))), (26, 1, (.c (.int .u8 33))), (27, 1, (.c (.int .u8 30))), (28, 1, (.c (.int .u8 24))), (29, 1, (.c (.int .u8 18))), (30, 1, (.c (.int .u8 12))), (31, 1, (.c (.int .u8 5))), (32, 1, (.c (.int .u8 63))), (33, 1, (.c (.int .u8 55))), (34, 1, (.c (.int .u8 48))), (35, 1, (.c (.int .u8 27))), (36, 1, (.c (.int .u8 60))), (37, 1, (.c (.int .u8 41))), (38, 1, (.c (.int .u8 37))), (39, 1, (.c (.int .u8 16))), (40, 1, (.c (.int .u8 46))), (41, 1, (.c (.int .u8 35))), (42, 1, (.c (.int .u8 44))), (43, 1, (.c (.int .u8 21))), (44, 1, (.c (.int .u8 52))), (45, 1, (.c (.int .u8 32))), (46, 1, (.c (.int .u8 23))), (47, 1, (.c (.int .u8 11))), (48, 1, (.c (.int .u8 54))), (49, 1, (.c (.int .u8 26))), (50, 1, (.c (.int .u8 40))), (51, 1, (.c (.int .u8 15))), (52, 1, (.c (.int .u8 34))), (53, 1, (.c (.int .u8 20))), (54, 1, (.c (.int .u8 31))), (55, 1, (.c (.int .u8 10))), (56, 1, (.c (.int .u8 25))), (57, 1, (.c (.int .u8 14))), (58, 1, (.c (.int .u8 19))), (59, 1, (.c (.int .u8 9))), (60, 1, (.c (.int .u8 13))), (61, 1, (.c (.int .u8 8))), (62, 1, (.c (.int .u8 7))), (63, 1, (.c (.int .u8 6)))], none⟩, ⟨none, .bad, none⟩])
  (.ops false [⟨some 2, .build [.int .u64 0, .int .u64 0, .int .u64 0, .int .u64 0, .int .u64 0, .int .u64 0, .int .u64 0, .int .u64 0, .int .u64 0, .int .u64 0, .int .u64 0, .int .u64 0, .int .u64 0, .int .u64 0, .int .u64 0, .int .u64 0, .int .u64 0, .int .u64 0, .int .u64 0, .int .u64 0] [(0, 1, (.c (.int .u64 1))), (1, 1, (.c (.int .u64 10))), (2, 1, (.c (.int .u64 100))), (3, 1, (.c (.int .u64 1000))), (4, 1, (.c (.int .u64 10000))), (5, 1, (.c (.int .u64 100000))), (6, 1, (.c (.int .u64 1000000))), (7, 1, (.c (.int .u64 10000000))), (8, 1, (.c (.int .u64 100000000))), (9, 1, (.c (.int .u64 1000000000))), (10, 1, (.c (.int .u64 10000000000))), (11, 1, (.c (.int .u64 100000000000))), (12, 1, (.c (.int .u64 1000000000000))), (13, 1, (.c (.int .u64 10000000000000))), (14, 1, (.c (.int .u64 100000000000000))), (15, 1, (.c (.int .u64 1000000000000000))), (16, 1, (.c (.int .u64 10000000000000000))), (17, 1, (.c (.int .u64 100000000000000000))), (18, 1, (.c (.int .u64 1000000000000000000))), (19, 1, (.c (.int .u64 10000000000000000000)))], none⟩, ⟨none, .bad, none⟩])),
  []⟩

end Go.Proofs.YtkefjfaeaalmbaaDoor
