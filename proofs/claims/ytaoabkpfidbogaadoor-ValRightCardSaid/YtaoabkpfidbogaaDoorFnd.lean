/- The data-level reading of the functions. -/
import Derived.Test.YtaoabkpfidbogaaDoorNkZ
set_option linter.all false
namespace Go.Proofs.YtaoabkpfidbogaaDoor
open Go.Nk

/- noria/norialaw06.ValTexts -/
def d_norialaw06_ValTexts : DFun := ⟨
  .seq (.ops false [⟨some 4, .bref (.t 1), none⟩, ⟨some 6, .mv (.c (.bool false)), none⟩])
  (.seq (.seq (.ops false [⟨some 7, .mv (.t 0), none⟩, ⟨some 8, .callP 6 [(.t 7)], none⟩, ⟨some 9, .un .not (.t 8), none⟩, ⟨some 10, .mv (.t 9), none⟩, ⟨some 11, .mv (.t 2), some (10, false)⟩, ⟨some 12, .len (.t 11), some (10, false)⟩, ⟨some 13, .bin .gtr (.t 12) (.c (.int .i64 20)), some (10, false)⟩, ⟨some 14, .pick (.t 10) (.c (.bool true)) (.t 13), none⟩])
  (.cond (.t 14) (.seq (.ops false [⟨some 15, .callP 7 [], none⟩, ⟨some 6, .mv (.t 15), none⟩])
   (.ret))
   (.skip)))
  (.seq (.opsP [(0, ⟨some 16, .mv (.t 0), none⟩), (1, ⟨some 17, .load (some 3) (.t 4), none⟩), (2, ⟨some 18, .mv (.t 2), none⟩), (4, ⟨some 20, .mv (.t 0), none⟩), (5, ⟨some 21, .load (some 3) (.t 4), none⟩), (6, ⟨some 22, .mv (.t 2), none⟩), (3, ⟨some 19, .callP 8 [(.t 16), (.t 17), (.t 18)], none⟩), (7, ⟨some 23, .callP 9 [(.t 20), (.t 21), (.t 22)], none⟩), (8, ⟨some 24, .bin .eql (.t 19) (.t 23), none⟩), (9, ⟨some 25, .mv (.t 24), none⟩), (10, ⟨some 26, .callP 7 [], some (25, true)⟩), (11, ⟨some 27, .pick (.t 25) (.t 26) (.c (.bool false)), none⟩), (12, ⟨some 6, .mv (.t 27), none⟩)])
  (.ret))),
  [.t 6]⟩

/- noria/norialaw06.ValApart -/
def d_norialaw06_ValApart : DFun := ⟨
  .seq (.ops false [⟨some 4, .bref (.t 1), none⟩, ⟨some 5, .bref (.t 2), none⟩, ⟨some 6, .mv (.c (.bool false)), none⟩])
  (.seq (.seq (.ops false [⟨some 7, .mv (.t 0), none⟩, ⟨some 8, .callP 6 [(.t 7)], none⟩, ⟨some 9, .un .not (.t 8), none⟩, ⟨some 10, .mv (.t 9), none⟩, ⟨some 11, .mv (.t 0), some (10, false)⟩, ⟨some 12, .callP 10 [(.t 11)], some (10, false)⟩, ⟨some 13, .bin .neq (.t 12) (.c (.int .i64 0)), some (10, false)⟩, ⟨some 14, .pick (.t 10) (.c (.bool true)) (.t 13), none⟩, ⟨some 15, .mv (.t 14), none⟩, ⟨some 16, .iaddrA 2 1 (.t 5) (.c (.int .i64 0)), some (15, false)⟩, ⟨some 17, .load none (.t 16), some (15, false)⟩, ⟨some 18, .len (.t 17), some (15, false)⟩, ⟨some 19, .bin .gtr (.t 18) (.c (.int .i64 20)), some (15, false)⟩, ⟨some 20, .pick (.t 15) (.c (.bool true)) (.t 19), none⟩, ⟨some 21, .mv (.t 20), none⟩, ⟨some 22, .iaddrA 2 1 (.t 5) (.c (.int .i64 1)), some (21, false)⟩, ⟨some 23, .load none (.t 22), some (21, false)⟩, ⟨some 24, .len (.t 23), some (21, false)⟩, ⟨some 25, .bin .gtr (.t 24) (.c (.int .i64 20)), some (21, false)⟩, ⟨some 26, .pick (.t 21) (.c (.bool true)) (.t 25), none⟩])
  (.cond (.t 26) (.seq (.ops false [⟨some 27, .callP 7 [], none⟩, ⟨some 6, .mv (.t 27), none⟩])
   (.ret))
   (.skip)))
  (.seq (.seq (.ops true [⟨some 28, .mv (.t 0), none⟩, ⟨some 29, .load (some 3) (.t 4), none⟩, ⟨some 30, .callP 11 [(.t 28), (.t 29)], none⟩, ⟨some 31, .mv (.t 30), none⟩, ⟨some 32, .mv (.t 0), some (31, true)⟩, ⟨some 33, .load (some 3) (.t 4), some (31, true)⟩, ⟨some 34, .load (some 3) (.t 4), some (31, true)⟩, ⟨some 35, .callP 13 [(.t 34)], some (31, true)⟩, ⟨some 36, .callP 12 [(.t 32), (.t 33), (.t 35)], some (31, true)⟩, ⟨some 37, .un .not (.t 36), some (31, true)⟩, ⟨some 38, .pick (.t 31) (.t 37) (.c (.bool false)), none⟩])
  (.cond (.t 38) (.seq (.ops false [⟨some 6, .mv (.c (.bool false)), none⟩])
   (.ret))
   (.skip)))
  (.seq (.seq (.ops false [⟨some 39, .mv (.t 0), none⟩, ⟨some 40, .load (some 3) (.t 4), none⟩, ⟨some 41, .iaddrA 2 1 (.t 5) (.c (.int .i64 0)), none⟩, ⟨some 42, .load none (.t 41), none⟩, ⟨some 43, .callP 12 [(.t 39), (.t 40), (.t 42)], none⟩, ⟨some 44, .un .not (.t 43), none⟩, ⟨some 45, .mv (.t 44), none⟩, ⟨some 46, .mv (.t 0), some (45, false)⟩, ⟨some 47, .load (some 3) (.t 4), some (45, false)⟩, ⟨some 48, .iaddrA 2 1 (.t 5) (.c (.int .i64 1)), some (45, false)⟩, ⟨some 49, .load none (.t 48), some (45, false)⟩, ⟨some 50, .callP 12 [(.t 46), (.t 47), (.t 49)], some (45, false)⟩, ⟨some 51, .un .not (.t 50), some (45, false)⟩, ⟨some 52, .pick (.t 45) (.c (.bool true)) (.t 51), none⟩])
  (.cond (.t 52) (.seq (.ops false [⟨some 53, .callP 7 [], none⟩, ⟨some 6, .mv (.t 53), none⟩])
   (.ret))
   (.skip)))
  (.seq (.opsP [(0, ⟨some 54, .mv (.t 0), none⟩), (1, ⟨some 55, .load (some 3) (.t 4), none⟩), (2, ⟨some 56, .iaddrA 2 1 (.t 5) (.c (.int .i64 0)), none⟩), (3, ⟨some 57, .load none (.t 56), none⟩), (5, ⟨some 59, .mv (.t 0), none⟩), (6, ⟨some 60, .load (some 3) (.t 4), none⟩), (7, ⟨some 61, .iaddrA 2 1 (.t 5) (.c (.int .i64 1)), none⟩), (8, ⟨some 62, .load none (.t 61), none⟩), (11, ⟨some 65, .iaddrA 2 1 (.t 5) (.c (.int .i64 0)), none⟩), (12, ⟨some 66, .load none (.t 65), none⟩), (13, ⟨some 67, .iaddrA 2 1 (.t 5) (.c (.int .i64 1)), none⟩), (14, ⟨some 68, .load none (.t 67), none⟩), (4, ⟨some 58, .callP 8 [(.t 54), (.t 55), (.t 57)], none⟩), (9, ⟨some 63, .callP 8 [(.t 59), (.t 60), (.t 62)], none⟩), (10, ⟨some 64, .bin .eql (.t 58) (.t 63), none⟩), (15, ⟨some 69, .callP 14 [(.t 66), (.t 68)], none⟩), (16, ⟨some 70, .beq false (.t 64) (.t 69), none⟩), (17, ⟨some 71, .mv (.t 70), none⟩), (18, ⟨some 72, .callP 7 [], some (71, true)⟩), (19, ⟨some 73, .pick (.t 71) (.t 72) (.c (.bool false)), none⟩), (20, ⟨some 6, .mv (.t 73), none⟩)])
  (.ret))))),
  [.t 6]⟩

/- noria/norialaw06.ValRight -/
def d_norialaw06_ValRight : DFun := ⟨
  .seq (.ops false [⟨some 4, .bref (.t 1), none⟩, ⟨some 6, .mv (.c (.bool false)), none⟩])
  (.seq (.seq (.ops false [⟨some 8, .mv (.t 0), none⟩, ⟨some 9, .callP 6 [(.t 8)], none⟩, ⟨some 10, .un .not (.t 9), none⟩, ⟨some 11, .mv (.t 10), none⟩, ⟨some 12, .mv (.t 2), some (11, false)⟩, ⟨some 13, .len (.t 12), some (11, false)⟩, ⟨some 14, .bin .gtr (.t 13) (.c (.int .i64 20)), some (11, false)⟩, ⟨some 15, .pick (.t 11) (.c (.bool true)) (.t 14), none⟩])
  (.cond (.t 15) (.seq (.ops false [⟨some 16, .callP 7 [], none⟩, ⟨some 6, .mv (.t 16), none⟩])
   (.ret))
   (.skip)))
  (.seq (.seq (.ops false [⟨some 7, .mv (.c (.int .i64 0)), none⟩])
  (.block 0 (.loop [0, 2, 4, 7] (some 0) (.seq (.seq (.ops false [⟨some 17, .mv (.t 7), none⟩, ⟨some 18, .mv (.t 2), none⟩, ⟨some 19, .len (.t 18), none⟩, ⟨some 20, .bin .lss (.t 17) (.t 19), none⟩])
    (.cond (.t 20) (.skip)
     (.exit 0)))
    (.seq (.block 1 (.seq (.opsP [(0, ⟨some 23, .mv (.t 0), none⟩), (1, ⟨some 24, .load (some 3) (.t 4), none⟩), (2, ⟨some 25, .mv (.t 2), none⟩), (3, ⟨some 26, .mv (.t 7), none⟩), (4, ⟨some 27, .iaddr 1 (.t 25) (.t 26), none⟩), (5, ⟨some 28, .load none (.t 27), none⟩), (7, ⟨some 30, .mv (.t 0), none⟩), (8, ⟨some 31, .load (some 3) (.t 4), none⟩), (9, ⟨some 32, .mv (.t 2), none⟩), (10, ⟨some 33, .mv (.t 7), none⟩), (11, ⟨some 34, .iaddr 1 (.t 32) (.t 33), none⟩), (12, ⟨some 35, .load none (.t 34), none⟩), (6, ⟨some 29, .callP 15 [(.t 23), (.t 24), (.t 28)], none⟩), (13, ⟨some 36, .callP 16 [(.t 30), (.t 31), (.t 35)], none⟩), (14, ⟨some 37, .beq true (.t 29) (.t 36), none⟩)])
     (.cond (.t 37) (.seq (.ops false [⟨some 6, .mv (.c (.bool false)), none⟩])
      (.ret))
      (.skip))))
    (.ops false [⟨some 21, .mv (.t 7), none⟩, ⟨some 22, .bin .add (.t 21) (.c (.int .i64 1)), none⟩, ⟨some 7, .mv (.t 22), none⟩]))))))
  (.seq (.opsP [(0, ⟨some 38, .mv (.t 0), none⟩), (1, ⟨some 39, .load (some 3) (.t 4), none⟩), (2, ⟨some 40, .mv (.t 2), none⟩), (4, ⟨some 42, .mv (.t 0), none⟩), (5, ⟨some 43, .load (some 3) (.t 4), none⟩), (6, ⟨some 44, .mv (.t 2), none⟩), (3, ⟨some 41, .callP 12 [(.t 38), (.t 39), (.t 40)], none⟩), (7, ⟨some 45, .callP 17 [(.t 42), (.t 43), (.t 44)], none⟩), (8, ⟨some 46, .beq false (.t 41) (.t 45), none⟩), (9, ⟨some 47, .mv (.t 46), none⟩), (10, ⟨some 48, .load (some 3) (.t 4), some (47, true)⟩), (12, ⟨some 50, .load (some 3) (.t 4), some (47, true)⟩), (11, ⟨some 49, .callP 13 [(.t 48)], some (47, true)⟩), (13, ⟨some 51, .callP 18 [(.t 50)], some (47, true)⟩), (14, ⟨some 52, .callP 14 [(.t 49), (.t 51)], some (47, true)⟩), (15, ⟨some 53, .pick (.t 47) (.t 52) (.c (.bool false)), none⟩), (16, ⟨some 54, .mv (.t 53), none⟩), (17, ⟨some 55, .load (some 3) (.t 4), some (54, true)⟩), (19, ⟨some 57, .load (some 3) (.t 4), some (54, true)⟩), (18, ⟨some 56, .callP 19 [(.t 55)], some (54, true)⟩), (20, ⟨some 58, .callP 20 [(.t 57)], some (54, true)⟩), (21, ⟨some 59, .bin .eql (.t 56) (.t 58), some (54, true)⟩), (22, ⟨some 60, .pick (.t 54) (.t 59) (.c (.bool false)), none⟩), (23, ⟨some 61, .mv (.t 60), none⟩), (24, ⟨some 62, .mv (.t 2), some (61, true)⟩), (25, ⟨some 63, .load (some 3) (.t 4), some (61, true)⟩), (28, ⟨some 66, .mv (.t 2), some (61, true)⟩), (29, ⟨some 67, .load (some 3) (.t 4), some (61, true)⟩), (26, ⟨some 64, .callP 13 [(.t 63)], some (61, true)⟩), (27, ⟨some 65, .callP 21 [(.t 62), (.t 64)], some (61, true)⟩), (30, ⟨some 68, .callP 18 [(.t 67)], some (61, true)⟩), (31, ⟨some 69, .callP 14 [(.t 66), (.t 68)], some (61, true)⟩), (32, ⟨some 70, .beq false (.t 65) (.t 69), some (61, true)⟩), (33, ⟨some 71, .pick (.t 61) (.t 70) (.c (.bool false)), none⟩), (34, ⟨some 72, .mv (.t 71), none⟩), (35, ⟨some 73, .callP 7 [], some (72, true)⟩), (36, ⟨some 74, .pick (.t 72) (.t 73) (.c (.bool false)), none⟩), (37, ⟨some 6, .mv (.t 74), none⟩)])
  (.ret)))),
  [.t 6]⟩

/- noria/noriaref05.Small -/
def d_noriaref05_Small : DFun := ⟨
  .seq (.ops false [⟨some 2, .mv (.c (.bool false)), none⟩])
  (.seq (.seq (.ops false [⟨some 5, .mv (.t 0), none⟩, ⟨some 6, .len (.t 5), none⟩, ⟨some 7, .bin .gtr (.t 6) (.c (.int .i64 8)), none⟩])
  (.cond (.t 7) (.seq (.ops false [⟨some 2, .mv (.c (.bool false)), none⟩])
   (.ret))
   (.skip)))
  (.seq (.seq (.ops false [⟨some 3, .mv (.c (.int .i64 0)), none⟩])
  (.block 0 (.loop [0, 3] (some 0) (.seq (.seq (.ops false [⟨some 8, .mv (.t 3), none⟩, ⟨some 9, .mv (.t 0), none⟩, ⟨some 10, .len (.t 9), none⟩, ⟨some 11, .bin .lss (.t 8) (.t 10), none⟩])
    (.cond (.t 11) (.skip)
     (.exit 0)))
    (.seq (.block 1 (.seq (.seq (.ops false [⟨some 14, .mv (.t 0), none⟩, ⟨some 15, .mv (.t 3), none⟩, ⟨some 16, .iaddr 2 (.t 14) (.t 15), none⟩, ⟨some 17, .faddr 1 (.t 16), none⟩, ⟨some 18, .load none (.t 17), none⟩, ⟨some 19, .len (.t 18), none⟩, ⟨some 20, .bin .gtr (.t 19) (.c (.int .i64 12)), none⟩, ⟨some 21, .mv (.t 20), none⟩, ⟨some 22, .mv (.t 0), some (21, false)⟩, ⟨some 23, .mv (.t 3), some (21, false)⟩, ⟨some 24, .iaddr 2 (.t 22) (.t 23), some (21, false)⟩, ⟨some 25, .faddr 0 (.t 24), some (21, false)⟩, ⟨some 26, .load none (.t 25), some (21, false)⟩, ⟨some 27, .lenS (.t 26), some (21, false)⟩, ⟨some 28, .bin .gtr (.t 27) (.c (.int .i64 100)), some (21, false)⟩, ⟨some 29, .pick (.t 21) (.c (.bool true)) (.t 28), none⟩])
     (.cond (.t 29) (.seq (.ops false [⟨some 2, .mv (.c (.bool false)), none⟩])
      (.ret))
      (.skip)))
     (.seq (.ops false [⟨some 4, .mv (.c (.int .i64 0)), none⟩])
     (.block 2 (.loop [0, 3, 4] (some 0) (.seq (.seq (.ops false [⟨some 30, .mv (.t 4), none⟩, ⟨some 31, .mv (.t 0), none⟩, ⟨some 32, .mv (.t 3), none⟩, ⟨some 33, .iaddr 2 (.t 31) (.t 32), none⟩, ⟨some 34, .faddr 1 (.t 33), none⟩, ⟨some 35, .load none (.t 34), none⟩, ⟨some 36, .len (.t 35), none⟩, ⟨some 37, .bin .lss (.t 30) (.t 36), none⟩])
       (.cond (.t 37) (.skip)
        (.exit 2)))
       (.seq (.block 3 (.seq (.ops false [⟨some 40, .mv (.t 0), none⟩, ⟨some 41, .mv (.t 3), none⟩, ⟨some 42, .iaddr 2 (.t 40) (.t 41), none⟩, ⟨some 43, .faddr 1 (.t 42), none⟩, ⟨some 44, .load none (.t 43), none⟩, ⟨some 45, .mv (.t 4), none⟩, ⟨some 46, .iaddr 1 (.t 44) (.t 45), none⟩, ⟨some 47, .load none (.t 46), none⟩, ⟨some 48, .lenS (.t 47), none⟩, ⟨some 49, .bin .gtr (.t 48) (.c (.int .i64 100)), none⟩])
        (.cond (.t 49) (.seq (.ops false [⟨some 2, .mv (.c (.bool false)), none⟩])
         (.ret))
         (.skip))))
       (.ops false [⟨some 38, .mv (.t 4), none⟩, ⟨some 39, .bin .add (.t 38) (.c (.int .i64 1)), none⟩, ⟨some 4, .mv (.t 39), none⟩]))))))))
    (.ops false [⟨some 12, .mv (.t 3), none⟩, ⟨some 13, .bin .add (.t 12) (.c (.int .i64 1)), none⟩, ⟨some 3, .mv (.t 13), none⟩]))))))
  (.seq (.ops false [⟨some 2, .mv (.c (.bool true)), none⟩])
  (.ret)))),
  [.t 2]⟩

/- noria/norialaw06.live -/
def d_norialaw06_live : DFun := ⟨
  .seq (.ops false [⟨some 0, .mv (.c (.bool false)), none⟩])
  (.seq (.ops false [⟨some 1, .build [.int .i64 0, .int .i64 0, .int .i64 0] [(0, 1, (.c (.int .i64 2))), (2, 1, (.c (.int .i64 2)))], none⟩, ⟨some 2, .bslice true [.int .i64 0] [(some (.c (.int .i64 1))), (some (.c (.int .i64 0)))], none⟩, ⟨some 3, .callP 8 [(.c (.nil)), (.t 1), (.t 2)], none⟩, ⟨some 4, .bin .eql (.t 3) (.c (.str [91, 116, 114, 117, 101, 44, 102, 97, 108, 115, 101, 93])), none⟩, ⟨some 0, .mv (.t 4), none⟩])
  (.ret)),
  [.t 0]⟩

/- noria/val.Text -/
def d_val_Text : DFun := ⟨
  .seq (.ops false [⟨some 4, .bref (.t 1), none⟩, ⟨some 6, .mv (.c (.str [])), none⟩])
  (.seq (.seq (.ops false [⟨some 12, .mv (.t 0), none⟩, ⟨some 13, .load (some 3) (.t 4), none⟩, ⟨some 14, .mv (.t 2), none⟩, ⟨some 15, .callP 12 [(.t 12), (.t 13), (.t 14)], none⟩, ⟨some 16, .un .not (.t 15), none⟩])
  (.cond (.t 16) (.seq (.ops false [⟨some 6, .mv (.c (.str [])), none⟩])
   (.ret))
   (.skip)))
  (.seq (.ops false [⟨some 7, .mkown 1 (.c (.nil)), none⟩])
  (.seq (.ops false [⟨some 17, .mv (.t 0), none⟩, ⟨some 18, .load (some 3) (.t 4), none⟩, ⟨some 19, .callP 22 [(.t 17), (.t 18)], none⟩, ⟨some 8, .mv (.t 19), none⟩])
  (.seq (.seq (.ops false [⟨some 20, .mv (.t 2), none⟩, ⟨some 21, .len (.t 20), none⟩, ⟨some 22, .mv (.c (.int .i64 0)), none⟩])
  (.block 0 (.loop [4, 7, 8, 20, 21, 22] (some 1) (.seq (.ops false [⟨some 23, .bin .lss (.t 22) (.t 21), none⟩])
    (.seq (.cond (.t 23) (.skip)
     (.exit 0))
    (.seq (.block 1 (.seq (.ops false [⟨some 24, .iaddr 1 (.t 20) (.t 22), none⟩, ⟨some 25, .load none (.t 24), none⟩, ⟨some 10, .mv (.t 25), none⟩])
     (.ops false [⟨some 26, .mv (.t 7), none⟩, ⟨some 27, .mv (.t 8), none⟩, ⟨some 28, .mv (.t 10), none⟩, ⟨some 29, .callvP (.t 27) [(.t 28)], none⟩, ⟨some 30, .bslice true [.str []] [(some (.t 29))], none⟩, ⟨some 31, .append 1 (.t 26) (.t 30), none⟩, ⟨some 7, .mv (.t 31), none⟩])))
    (.ops false [⟨some 32, .bin .add (.t 22) (.c (.int .i64 1)), none⟩, ⟨some 22, .mv (.t 32), none⟩])))))))
  (.seq (.ops false [⟨some 33, .mv (.t 7), none⟩, ⟨some 34, .callP 23 [(.t 33), (.c (.str [44]))], none⟩, ⟨some 11, .mv (.t 34), none⟩])
  (.seq (.seq (.ops false [⟨some 35, .faddr 2 (.t 4), none⟩, ⟨some 36, .load none (.t 35), none⟩, ⟨some 37, .bin .gtr (.t 36) (.c (.int .i64 0)), none⟩])
  (.cond (.t 37) (.ops false [⟨some 38, .mv (.t 11), none⟩, ⟨some 39, .bin .add (.c (.str [91])) (.t 38), none⟩, ⟨some 40, .bin .add (.t 39) (.c (.str [93])), none⟩, ⟨some 11, .mv (.t 40), none⟩])
   (.skip)))
  (.seq (.ops false [⟨some 41, .mv (.t 11), none⟩, ⟨some 6, .mv (.t 41), none⟩])
  (.ret)))))))),
  [.t 6]⟩

/- noria/noriaref06.Text -/
def d_noriaref06_Text : DFun := ⟨
  .seq (.ops false [⟨some 4, .bref (.t 1), none⟩, ⟨some 6, .mv (.c (.str [])), none⟩])
  (.seq (.seq (.ops false [⟨some 9, .mv (.t 0), none⟩, ⟨some 10, .load (some 3) (.t 4), none⟩, ⟨some 11, .mv (.t 2), none⟩, ⟨some 12, .callP 17 [(.t 9), (.t 10), (.t 11)], none⟩, ⟨some 13, .un .not (.t 12), none⟩])
  (.cond (.t 13) (.seq (.ops false [⟨some 6, .mv (.c (.str [])), none⟩])
   (.ret))
   (.skip)))
  (.seq (.seq (.ops false [⟨some 14, .faddr 2 (.t 4), none⟩, ⟨some 15, .load none (.t 14), none⟩, ⟨some 16, .bin .eql (.t 15) (.c (.int .i64 0)), none⟩])
  (.cond (.t 16) (.seq (.ops true [⟨some 17, .mv (.t 0), none⟩, ⟨some 18, .load (some 3) (.t 4), none⟩, ⟨some 19, .mv (.t 2), none⟩, ⟨some 20, .iaddr 1 (.t 19) (.c (.int .i64 0)), none⟩, ⟨some 21, .load none (.t 20), none⟩, ⟨some 22, .callP 24 [(.t 17), (.t 18), (.t 21)], none⟩, ⟨some 6, .mv (.t 22), none⟩])
   (.ret))
   (.skip)))
  (.seq (.ops false [⟨some 7, .mv (.c (.str [91])), none⟩])
  (.seq (.seq (.ops false [⟨some 8, .mv (.c (.int .i64 0)), none⟩])
  (.block 0 (.loop [0, 2, 4, 7, 8] (some 0) (.seq (.seq (.ops false [⟨some 23, .mv (.t 8), none⟩, ⟨some 24, .mv (.t 2), none⟩, ⟨some 25, .len (.t 24), none⟩, ⟨some 26, .bin .lss (.t 23) (.t 25), none⟩])
    (.cond (.t 26) (.skip)
     (.exit 0)))
    (.seq (.block 1 (.seq (.seq (.ops false [⟨some 29, .mv (.t 8), none⟩, ⟨some 30, .bin .gtr (.t 29) (.c (.int .i64 0)), none⟩])
     (.cond (.t 30) (.ops false [⟨some 31, .mv (.t 7), none⟩, ⟨some 32, .bin .add (.t 31) (.c (.str [44])), none⟩, ⟨some 7, .mv (.t 32), none⟩])
      (.skip)))
     (.ops true [⟨some 33, .mv (.t 7), none⟩, ⟨some 34, .mv (.t 0), none⟩, ⟨some 35, .load (some 3) (.t 4), none⟩, ⟨some 36, .mv (.t 2), none⟩, ⟨some 37, .mv (.t 8), none⟩, ⟨some 38, .iaddr 1 (.t 36) (.t 37), none⟩, ⟨some 39, .load none (.t 38), none⟩, ⟨some 40, .callP 24 [(.t 34), (.t 35), (.t 39)], none⟩, ⟨some 41, .bin .add (.t 33) (.t 40), none⟩, ⟨some 7, .mv (.t 41), none⟩])))
    (.ops false [⟨some 27, .mv (.t 8), none⟩, ⟨some 28, .bin .add (.t 27) (.c (.int .i64 1)), none⟩, ⟨some 8, .mv (.t 28), none⟩]))))))
  (.seq (.ops false [⟨some 42, .mv (.t 7), none⟩, ⟨some 43, .bin .add (.t 42) (.c (.str [93])), none⟩, ⟨some 6, .mv (.t 43), none⟩])
  (.ret)))))),
  [.t 6]⟩

/- noria/noriaref05.Enums -/
def d_noriaref05_Enums : DFun := ⟨
  .seq (.ops false [⟨some 2, .mv (.c (.int .i64 0)), none⟩])
  (.seq (.ops false [⟨some 8, .bslice false [.str []] [], none⟩, ⟨some 9, .bslice false [.str []] [], none⟩, ⟨some 3, .mv (.t 8), none⟩, ⟨some 4, .mv (.t 9), none⟩])
  (.seq (.seq (.ops false [⟨some 10, .mv (.t 0), none⟩, ⟨some 11, .len (.t 10), none⟩, ⟨some 12, .bin .gtr (.t 11) (.c (.int .i64 4)), none⟩])
  (.cond (.t 12) (.seq (.ops false [⟨some 2, .mv (.c (.int .i64 4)), none⟩])
   (.ret))
   (.skip)))
  (.seq (.seq (.ops false [⟨some 5, .mv (.c (.int .i64 0)), none⟩])
  (.block 0 (.loop [0, 3, 4, 5] (some 2) (.seq (.seq (.ops false [⟨some 13, .mv (.t 5), none⟩, ⟨some 14, .mv (.t 0), none⟩, ⟨some 15, .len (.t 14), none⟩, ⟨some 16, .bin .lss (.t 13) (.t 15), none⟩])
    (.cond (.t 16) (.skip)
     (.exit 0)))
    (.seq (.block 1 (.seq (.seq (.ops false [⟨some 19, .mv (.t 0), none⟩, ⟨some 20, .mv (.t 5), none⟩, ⟨some 21, .iaddr 2 (.t 19) (.t 20), none⟩, ⟨some 22, .faddr 1 (.t 21), none⟩, ⟨some 23, .load none (.t 22), none⟩, ⟨some 24, .len (.t 23), none⟩, ⟨some 25, .bin .gtr (.t 24) (.c (.int .i64 6)), none⟩])
     (.cond (.t 25) (.seq (.ops false [⟨some 2, .mv (.c (.int .i64 4)), none⟩])
      (.ret))
      (.skip)))
     (.seq (.ops false [⟨some 26, .mv (.t 3), none⟩, ⟨some 27, .mv (.t 0), none⟩, ⟨some 28, .mv (.t 5), none⟩, ⟨some 29, .iaddr 2 (.t 27) (.t 28), none⟩, ⟨some 30, .faddr 0 (.t 29), none⟩, ⟨some 31, .load none (.t 30), none⟩, ⟨some 32, .bslice true [.str []] [(some (.t 31))], none⟩, ⟨some 33, .append 1 (.t 26) (.t 32), none⟩, ⟨some 3, .mv (.t 33), none⟩])
     (.ops false [⟨some 34, .mv (.t 4), none⟩, ⟨some 35, .mv (.t 0), none⟩, ⟨some 36, .mv (.t 5), none⟩, ⟨some 37, .iaddr 2 (.t 35) (.t 36), none⟩, ⟨some 38, .faddr 1 (.t 37), none⟩, ⟨some 39, .load none (.t 38), none⟩, ⟨some 40, .append 1 (.t 34) (.t 39), none⟩, ⟨some 4, .mv (.t 40), none⟩]))))
    (.ops false [⟨some 17, .mv (.t 5), none⟩, ⟨some 18, .bin .add (.t 17) (.c (.int .i64 1)), none⟩, ⟨some 5, .mv (.t 18), none⟩]))))))
  (.seq (.seq (.ops false [⟨some 6, .mv (.c (.int .i64 0)), none⟩])
  (.block 2 (.loop [0, 3, 4, 6] (some 2) (.seq (.seq (.ops false [⟨some 41, .mv (.t 6), none⟩, ⟨some 42, .mv (.t 0), none⟩, ⟨some 43, .len (.t 42), none⟩, ⟨some 44, .bin .lss (.t 41) (.t 43), none⟩])
    (.cond (.t 44) (.skip)
     (.exit 2)))
    (.seq (.block 3 (.seq (.ops false [⟨some 47, .mv (.t 0), none⟩, ⟨some 48, .mv (.t 6), none⟩, ⟨some 49, .iaddr 2 (.t 47) (.t 48), none⟩, ⟨some 50, .faddr 0 (.t 49), none⟩, ⟨some 51, .load none (.t 50), none⟩, ⟨some 52, .callP 25 [(.t 51)], none⟩, ⟨some 53, .un .not (.t 52), none⟩, ⟨some 54, .mv (.t 53), none⟩, ⟨some 55, .mv (.t 0), some (54, false)⟩, ⟨some 56, .mv (.t 6), some (54, false)⟩, ⟨some 57, .iaddr 2 (.t 55) (.t 56), some (54, false)⟩, ⟨some 58, .faddr 1 (.t 57), some (54, false)⟩, ⟨some 59, .load none (.t 58), some (54, false)⟩, ⟨some 60, .len (.t 59), some (54, false)⟩, ⟨some 61, .bin .eql (.t 60) (.c (.int .i64 0)), some (54, false)⟩, ⟨some 62, .pick (.t 54) (.c (.bool true)) (.t 61), none⟩])
     (.cond (.t 62) (.seq (.ops false [⟨some 2, .mv (.c (.int .i64 1)), none⟩])
      (.ret))
      (.skip))))
    (.ops false [⟨some 45, .mv (.t 6), none⟩, ⟨some 46, .bin .add (.t 45) (.c (.int .i64 1)), none⟩, ⟨some 6, .mv (.t 46), none⟩]))))))
  (.seq (.seq (.ops false [⟨some 7, .mv (.c (.int .i64 0)), none⟩])
  (.block 4 (.loop [3, 4, 7] (some 2) (.seq (.seq (.ops false [⟨some 63, .mv (.t 7), none⟩, ⟨some 64, .mv (.t 4), none⟩, ⟨some 65, .len (.t 64), none⟩, ⟨some 66, .bin .lss (.t 63) (.t 65), none⟩])
    (.cond (.t 66) (.skip)
     (.exit 4)))
    (.seq (.block 5 (.seq (.ops false [⟨some 69, .mv (.t 4), none⟩, ⟨some 70, .mv (.t 7), none⟩, ⟨some 71, .iaddr 1 (.t 69) (.t 70), none⟩, ⟨some 72, .load none (.t 71), none⟩, ⟨some 73, .callP 26 [(.t 72)], none⟩, ⟨some 74, .un .not (.t 73), none⟩])
     (.cond (.t 74) (.seq (.ops false [⟨some 2, .mv (.c (.int .i64 1)), none⟩])
      (.ret))
      (.skip))))
    (.ops false [⟨some 67, .mv (.t 7), none⟩, ⟨some 68, .bin .add (.t 67) (.c (.int .i64 1)), none⟩, ⟨some 7, .mv (.t 68), none⟩]))))))
  (.seq (.seq (.ops false [⟨some 75, .mv (.t 3), none⟩, ⟨some 76, .callP 27 [(.t 75)], none⟩, ⟨some 77, .un .not (.t 76), none⟩, ⟨some 78, .mv (.t 77), none⟩, ⟨some 79, .mv (.t 4), some (78, false)⟩, ⟨some 80, .callP 27 [(.t 79)], some (78, false)⟩, ⟨some 81, .un .not (.t 80), some (78, false)⟩, ⟨some 82, .pick (.t 78) (.c (.bool true)) (.t 81), none⟩])
  (.cond (.t 82) (.seq (.ops false [⟨some 2, .mv (.c (.int .i64 6)), none⟩])
   (.ret))
   (.skip)))
  (.seq (.ops false [⟨some 2, .mv (.c (.int .i64 0)), none⟩])
  (.ret)))))))),
  [.t 2]⟩

/- noria/noriaref05.Right -/
def d_noriaref05_Right : DFun := ⟨
  .seq (.ops false [⟨some 3, .box (.t 1), none⟩, ⟨some 4, .mv (.c (.bool false)), none⟩])
  (.seq (.seq (.ops false [⟨some 5, .faddr 0 (.t 3), none⟩, ⟨some 6, .load none (.t 5), none⟩, ⟨some 7, .bin .lss (.t 6) (.c (.int .i64 1)), none⟩, ⟨some 8, .mv (.t 7), none⟩, ⟨some 9, .faddr 0 (.t 3), some (8, false)⟩, ⟨some 10, .load none (.t 9), some (8, false)⟩, ⟨some 11, .bin .gtr (.t 10) (.c (.int .i64 3)), some (8, false)⟩, ⟨some 12, .pick (.t 8) (.c (.bool true)) (.t 11), none⟩, ⟨some 13, .mv (.t 12), none⟩, ⟨some 14, .faddr 2 (.t 3), some (13, false)⟩, ⟨some 15, .load none (.t 14), some (13, false)⟩, ⟨some 16, .bin .lss (.t 15) (.c (.int .i64 0)), some (13, false)⟩, ⟨some 17, .pick (.t 13) (.c (.bool true)) (.t 16), none⟩, ⟨some 18, .mv (.t 17), none⟩, ⟨some 19, .faddr 2 (.t 3), some (18, false)⟩, ⟨some 20, .load none (.t 19), some (18, false)⟩, ⟨some 21, .bin .gtr (.t 20) (.c (.int .i64 8)), some (18, false)⟩, ⟨some 22, .pick (.t 18) (.c (.bool true)) (.t 21), none⟩])
  (.cond (.t 22) (.seq (.ops false [⟨some 4, .mv (.c (.bool false)), none⟩])
   (.ret))
   (.skip)))
  (.seq (.seq (.ops false [⟨some 23, .faddr 0 (.t 3), none⟩, ⟨some 24, .load none (.t 23), none⟩, ⟨some 25, .bin .eql (.t 24) (.c (.int .i64 3)), none⟩])
  (.cond (.t 25) (.seq (.ops false [⟨some 26, .faddr 1 (.t 3), none⟩, ⟨some 27, .load none (.t 26), none⟩, ⟨some 28, .bin .geq (.t 27) (.c (.int .i64 0)), none⟩, ⟨some 29, .mv (.t 28), none⟩, ⟨some 30, .faddr 1 (.t 3), some (29, true)⟩, ⟨some 31, .load none (.t 30), some (29, true)⟩, ⟨some 32, .mv (.t 0), some (29, true)⟩, ⟨some 33, .len (.t 32), some (29, true)⟩, ⟨some 34, .bin .lss (.t 31) (.t 33), some (29, true)⟩, ⟨some 35, .pick (.t 29) (.t 34) (.c (.bool false)), none⟩, ⟨some 4, .mv (.t 35), none⟩])
   (.ret))
   (.skip)))
  (.seq (.ops false [⟨some 36, .faddr 1 (.t 3), none⟩, ⟨some 37, .load none (.t 36), none⟩, ⟨some 38, .bin .eql (.t 37) (.c (.int .i64 0)), none⟩, ⟨some 4, .mv (.t 38), none⟩])
  (.ret)))),
  [.t 4]⟩

/- noria/val.Right -/
def d_val_Right : DFun := ⟨
  .seq (.ops false [⟨some 3, .box (.t 0), none⟩, ⟨some 4, .box (.t 1), none⟩, ⟨some 6, .mv (.c (.bool false)), none⟩])
  (.seq (.ops false [⟨some 8, .mkfun 28 [(.t 3), (.t 4)], none⟩, ⟨some 7, .mv (.t 8), none⟩])
  (.seq (.ops false [⟨some 9, .load none (.t 3), none⟩, ⟨some 10, .load (some 3) (.t 4), none⟩, ⟨some 11, .callP 29 [(.t 9), (.t 10)], none⟩, ⟨some 12, .mv (.t 11), none⟩, ⟨some 13, .mv (.t 2), some (12, true)⟩, ⟨some 14, .len (.t 13), some (12, true)⟩, ⟨some 15, .load (some 3) (.t 4), some (12, true)⟩, ⟨some 16, .callP 30 [(.t 15)], some (12, true)⟩, ⟨some 17, .bin .eql (.t 14) (.t 16), some (12, true)⟩, ⟨some 18, .pick (.t 12) (.t 17) (.c (.bool false)), none⟩, ⟨some 19, .mv (.t 18), none⟩, ⟨some 20, .mv (.t 2), some (19, true)⟩, ⟨some 21, .mv (.t 7), some (19, true)⟩, ⟨some 22, .callP 31 [(.t 20), (.t 21)], some (19, true)⟩, ⟨some 23, .un .not (.t 22), some (19, true)⟩, ⟨some 24, .pick (.t 19) (.t 23) (.c (.bool false)), none⟩, ⟨some 6, .mv (.t 24), none⟩])
  (.ret))),
  [.t 6]⟩

/- noria/val.Zero -/
def d_val_Zero : DFun := ⟨
  .seq (.ops false [⟨some 1, .bref (.t 0), none⟩, ⟨some 2, .mv (.c (.nil)), none⟩])
  (.seq (.ops false [⟨some 3, .load (some 3) (.t 1), none⟩, ⟨some 4, .callP 30 [(.t 3)], none⟩, ⟨some 5, .make [.int .i64 0] (.t 4) (.t 4), none⟩, ⟨some 2, .mv (.t 5), none⟩])
  (.ret)),
  [.t 2]⟩

/- noria/noriaref01.Vals -/
def d_noriaref01_Vals : DFun := ⟨
  .seq (.ops false [⟨some 4, .mv (.c (.bool false)), none⟩])
  (.seq (.seq (.ops false [⟨some 6, .mv (.t 0), none⟩, ⟨some 7, .len (.t 6), none⟩, ⟨some 8, .mv (.t 1), none⟩, ⟨some 9, .len (.t 8), none⟩, ⟨some 10, .bin .neq (.t 7) (.t 9), none⟩])
  (.cond (.t 10) (.seq (.ops false [⟨some 4, .mv (.c (.bool false)), none⟩])
   (.ret))
   (.skip)))
  (.seq (.seq (.ops false [⟨some 5, .mv (.c (.int .i64 0)), none⟩])
  (.block 0 (.loop [0, 1, 5] (some 0) (.seq (.seq (.ops false [⟨some 11, .mv (.t 5), none⟩, ⟨some 12, .mv (.t 0), none⟩, ⟨some 13, .len (.t 12), none⟩, ⟨some 14, .bin .lss (.t 11) (.t 13), none⟩])
    (.cond (.t 14) (.skip)
     (.exit 0)))
    (.seq (.block 1 (.seq (.ops true [⟨some 17, .mv (.t 0), none⟩, ⟨some 18, .mv (.t 5), none⟩, ⟨some 19, .iaddr 1 (.t 17) (.t 18), none⟩, ⟨some 20, .load none (.t 19), none⟩, ⟨some 21, .mv (.t 1), none⟩, ⟨some 22, .mv (.t 5), none⟩, ⟨some 23, .iaddr 1 (.t 21) (.t 22), none⟩, ⟨some 24, .load none (.t 23), none⟩, ⟨some 25, .bin .neq (.t 20) (.t 24), none⟩])
     (.cond (.t 25) (.seq (.ops false [⟨some 4, .mv (.c (.bool false)), none⟩])
      (.ret))
      (.skip))))
    (.ops false [⟨some 15, .mv (.t 5), none⟩, ⟨some 16, .bin .add (.t 15) (.c (.int .i64 1)), none⟩, ⟨some 5, .mv (.t 16), none⟩]))))))
  (.seq (.ops false [⟨some 4, .mv (.c (.bool true)), none⟩])
  (.ret)))),
  [.t 4]⟩

/- noria/val.One -/
def d_val_One : DFun := ⟨
  .seq (.ops false [⟨some 4, .box (.t 1), none⟩, ⟨some 6, .mv (.c (.bool false)), none⟩])
  (.seq (.seq (.ops false [⟨some 7, .mv (.t 0), none⟩, ⟨some 8, .load (some 3) (.t 4), none⟩, ⟨some 9, .callP 29 [(.t 7), (.t 8)], none⟩, ⟨some 10, .un .not (.t 9), none⟩])
  (.cond (.t 10) (.seq (.ops false [⟨some 6, .mv (.c (.bool false)), none⟩])
   (.ret))
   (.skip)))
  (.seq (.seq (.ops false [⟨some 11, .faddr 0 (.t 4), none⟩, ⟨some 12, .load none (.t 11), none⟩])
  (.block 0 (.seq (.ops false [⟨some 14, .bin .eql (.t 12) (.c (.int .i64 2)), none⟩, ⟨some 13, .mv (.t 14), none⟩])
   (.cond (.t 13) (.seq (.ops false [⟨some 15, .mv (.t 2), none⟩, ⟨some 16, .bin .eql (.t 15) (.c (.int .i64 0)), none⟩, ⟨some 17, .mv (.t 16), none⟩, ⟨some 18, .mv (.t 2), some (17, false)⟩, ⟨some 19, .bin .eql (.t 18) (.c (.int .i64 1)), some (17, false)⟩, ⟨some 20, .pick (.t 17) (.c (.bool true)) (.t 19), none⟩, ⟨some 6, .mv (.t 20), none⟩])
    (.ret))
    (.seq (.ops false [⟨some 22, .bin .eql (.t 12) (.c (.int .i64 3)), none⟩, ⟨some 21, .mv (.t 22), none⟩])
    (.cond (.t 21) (.seq (.ops false [⟨some 23, .mv (.t 2), none⟩, ⟨some 24, .bin .geq (.t 23) (.c (.int .i64 0)), none⟩, ⟨some 25, .mv (.t 24), none⟩, ⟨some 26, .mv (.t 2), some (25, true)⟩, ⟨some 27, .mv (.t 0), some (25, true)⟩, ⟨some 28, .faddr 1 (.t 4), some (25, true)⟩, ⟨some 29, .load none (.t 28), some (25, true)⟩, ⟨some 30, .iaddr 2 (.t 27) (.t 29), some (25, true)⟩, ⟨some 31, .faddr 1 (.t 30), some (25, true)⟩, ⟨some 32, .load none (.t 31), some (25, true)⟩, ⟨some 33, .len (.t 32), some (25, true)⟩, ⟨some 34, .bin .lss (.t 26) (.t 33), some (25, true)⟩, ⟨some 35, .pick (.t 25) (.t 34) (.c (.bool false)), none⟩, ⟨some 6, .mv (.t 35), none⟩])
     (.ret))
     (.skip)))))))
  (.seq (.ops false [⟨some 6, .mv (.c (.bool true)), none⟩])
  (.ret)))),
  [.t 6]⟩

/- noria/noriaref06.One -/
def d_noriaref06_One : DFun := ⟨
  .seq (.ops false [⟨some 4, .box (.t 1), none⟩, ⟨some 6, .mv (.c (.bool false)), none⟩])
  (.seq (.seq (.ops false [⟨some 7, .mv (.t 0), none⟩, ⟨some 8, .load (some 3) (.t 4), none⟩, ⟨some 9, .callP 11 [(.t 7), (.t 8)], none⟩, ⟨some 10, .un .not (.t 9), none⟩])
  (.cond (.t 10) (.seq (.ops false [⟨some 6, .mv (.c (.bool false)), none⟩])
   (.ret))
   (.skip)))
  (.seq (.seq (.ops false [⟨some 11, .faddr 0 (.t 4), none⟩, ⟨some 12, .load none (.t 11), none⟩, ⟨some 13, .bin .eql (.t 12) (.c (.int .i64 2)), none⟩])
  (.cond (.t 13) (.seq (.ops false [⟨some 14, .mv (.t 2), none⟩, ⟨some 15, .bin .eql (.t 14) (.c (.int .i64 0)), none⟩, ⟨some 16, .mv (.t 15), none⟩, ⟨some 17, .mv (.t 2), some (16, false)⟩, ⟨some 18, .bin .eql (.t 17) (.c (.int .i64 1)), some (16, false)⟩, ⟨some 19, .pick (.t 16) (.c (.bool true)) (.t 18), none⟩, ⟨some 6, .mv (.t 19), none⟩])
   (.ret))
   (.skip)))
  (.seq (.ops false [⟨some 20, .faddr 0 (.t 4), none⟩, ⟨some 21, .load none (.t 20), none⟩, ⟨some 22, .bin .eql (.t 21) (.c (.int .i64 1)), none⟩, ⟨some 23, .mv (.t 22), none⟩, ⟨some 24, .mv (.t 2), some (23, false)⟩, ⟨some 25, .bin .geq (.t 24) (.c (.int .i64 0)), some (23, false)⟩, ⟨some 26, .mv (.t 25), some (23, false)⟩, ⟨some 27, .mv (.t 2), some (26, true)⟩, ⟨some 28, .mv (.t 0), some (26, true)⟩, ⟨some 29, .faddr 1 (.t 4), some (26, true)⟩, ⟨some 30, .load none (.t 29), some (26, true)⟩, ⟨some 31, .iaddr 2 (.t 28) (.t 30), some (26, true)⟩, ⟨some 32, .faddr 1 (.t 31), some (26, true)⟩, ⟨some 33, .load none (.t 32), some (26, true)⟩, ⟨some 34, .len (.t 33), some (26, true)⟩, ⟨some 35, .bin .lss (.t 27) (.t 34), some (26, true)⟩, ⟨some 36, .pick (.t 26) (.t 35) (.c (.bool false)), some (23, false)⟩, ⟨some 37, .pick (.t 23) (.c (.bool true)) (.t 36), none⟩, ⟨some 6, .mv (.t 37), none⟩])
  (.ret)))),
  [.t 6]⟩

/- noria/noriaref06.Right -/
def d_noriaref06_Right : DFun := ⟨
  .seq (.ops false [⟨some 4, .box (.t 1), none⟩, ⟨some 6, .mv (.c (.bool false)), none⟩])
  (.seq (.seq (.ops false [⟨some 8, .mv (.t 0), none⟩, ⟨some 9, .load (some 3) (.t 4), none⟩, ⟨some 10, .callP 11 [(.t 8), (.t 9)], none⟩, ⟨some 11, .un .not (.t 10), none⟩, ⟨some 12, .mv (.t 11), none⟩, ⟨some 13, .mv (.t 2), some (12, false)⟩, ⟨some 14, .len (.t 13), some (12, false)⟩, ⟨some 15, .load (some 3) (.t 4), some (12, false)⟩, ⟨some 16, .callP 32 [(.t 15)], some (12, false)⟩, ⟨some 17, .bin .neq (.t 14) (.t 16), some (12, false)⟩, ⟨some 18, .pick (.t 12) (.c (.bool true)) (.t 17), none⟩])
  (.cond (.t 18) (.seq (.ops false [⟨some 6, .mv (.c (.bool false)), none⟩])
   (.ret))
   (.skip)))
  (.seq (.seq (.ops false [⟨some 7, .mv (.c (.int .i64 0)), none⟩])
  (.block 0 (.loop [0, 2, 4, 7] (some 1) (.seq (.seq (.ops false [⟨some 19, .mv (.t 7), none⟩, ⟨some 20, .mv (.t 2), none⟩, ⟨some 21, .len (.t 20), none⟩, ⟨some 22, .bin .lss (.t 19) (.t 21), none⟩])
    (.cond (.t 22) (.skip)
     (.exit 0)))
    (.seq (.block 1 (.seq (.ops true [⟨some 25, .mv (.t 0), none⟩, ⟨some 26, .load (some 3) (.t 4), none⟩, ⟨some 27, .mv (.t 2), none⟩, ⟨some 28, .mv (.t 7), none⟩, ⟨some 29, .iaddr 1 (.t 27) (.t 28), none⟩, ⟨some 30, .load none (.t 29), none⟩, ⟨some 31, .callP 16 [(.t 25), (.t 26), (.t 30)], none⟩, ⟨some 32, .un .not (.t 31), none⟩])
     (.cond (.t 32) (.seq (.ops false [⟨some 6, .mv (.c (.bool false)), none⟩])
      (.ret))
      (.skip))))
    (.ops false [⟨some 23, .mv (.t 7), none⟩, ⟨some 24, .bin .add (.t 23) (.c (.int .i64 1)), none⟩, ⟨some 7, .mv (.t 24), none⟩]))))))
  (.seq (.ops false [⟨some 6, .mv (.c (.bool true)), none⟩])
  (.ret)))),
  [.t 6]⟩

/- noria/noriaref06.Zero -/
def d_noriaref06_Zero : DFun := ⟨
  .seq (.ops false [⟨some 1, .bref (.t 0), none⟩, ⟨some 2, .mv (.c (.nil)), none⟩])
  (.seq (.ops false [⟨some 5, .bslice false [.int .i64 0] [], none⟩, ⟨some 3, .mv (.t 5), none⟩])
  (.seq (.seq (.ops false [⟨some 4, .mv (.c (.int .i64 0)), none⟩])
  (.block 0 (.loop [1, 3, 4] (some 1) (.seq (.seq (.ops false [⟨some 6, .mv (.t 4), none⟩, ⟨some 7, .load (some 3) (.t 1), none⟩, ⟨some 8, .callP 32 [(.t 7)], none⟩, ⟨some 9, .bin .lss (.t 6) (.t 8), none⟩])
    (.cond (.t 9) (.skip)
     (.exit 0)))
    (.seq (.block 1 (.ops false [⟨some 12, .mv (.t 3), none⟩, ⟨some 13, .bslice true [.int .i64 0] [(some (.c (.int .i64 0)))], none⟩, ⟨some 14, .append 1 (.t 12) (.t 13), none⟩, ⟨some 3, .mv (.t 14), none⟩]))
    (.ops false [⟨some 10, .mv (.t 4), none⟩, ⟨some 11, .bin .add (.t 10) (.c (.int .i64 1)), none⟩, ⟨some 4, .mv (.t 11), none⟩]))))))
  (.seq (.ops false [⟨some 15, .mv (.t 3), none⟩, ⟨some 2, .mv (.t 15), none⟩])
  (.ret)))),
  [.t 2]⟩

/- noria/val.Kind -/
def d_val_Kind : DFun := ⟨
  .seq (.ops false [⟨some 1, .bref (.t 0), none⟩, ⟨some 2, .mv (.c (.int .i64 0)), none⟩])
  (.seq (.block 0 (.seq (.ops false [⟨some 4, .faddr 0 (.t 1), none⟩, ⟨some 5, .load none (.t 4), none⟩, ⟨some 6, .bin .eql (.t 5) (.c (.int .i64 1)), none⟩, ⟨some 7, .mv (.t 6), none⟩, ⟨some 8, .faddr 0 (.t 1), some (7, false)⟩, ⟨some 9, .load none (.t 8), some (7, false)⟩, ⟨some 10, .bin .eql (.t 9) (.c (.int .i64 2)), some (7, false)⟩, ⟨some 11, .pick (.t 7) (.c (.bool true)) (.t 10), none⟩, ⟨some 3, .mv (.t 11), none⟩])
   (.cond (.t 3) (.seq (.ops false [⟨some 12, .faddr 0 (.t 1), none⟩, ⟨some 13, .load none (.t 12), none⟩, ⟨some 2, .mv (.t 13), none⟩])
    (.ret))
    (.seq (.ops false [⟨some 15, .faddr 0 (.t 1), none⟩, ⟨some 16, .load none (.t 15), none⟩, ⟨some 17, .bin .eql (.t 16) (.c (.int .i64 3)), none⟩, ⟨some 18, .mv (.t 17), none⟩, ⟨some 19, .faddr 1 (.t 1), some (18, true)⟩, ⟨some 20, .load none (.t 19), some (18, true)⟩, ⟨some 21, .bin .geq (.t 20) (.c (.int .i64 0)), some (18, true)⟩, ⟨some 22, .pick (.t 18) (.t 21) (.c (.bool false)), none⟩, ⟨some 23, .mv (.t 22), none⟩, ⟨some 24, .faddr 1 (.t 1), some (23, true)⟩, ⟨some 25, .load none (.t 24), some (23, true)⟩, ⟨some 26, .bin .leq (.t 25) (.c (.int .i64 1000)), some (23, true)⟩, ⟨some 27, .pick (.t 23) (.t 26) (.c (.bool false)), none⟩, ⟨some 14, .mv (.t 27), none⟩])
    (.cond (.t 14) (.seq (.ops false [⟨some 28, .faddr 1 (.t 1), none⟩, ⟨some 29, .load none (.t 28), none⟩, ⟨some 30, .bin .add (.c (.int .i64 3)) (.t 29), none⟩, ⟨some 2, .mv (.t 30), none⟩])
     (.ret))
     (.skip))))))
  (.seq (.ops false [⟨some 2, .mv (.c (.int .i64 0)), none⟩])
  (.ret))),
  [.t 2]⟩

/- noria/noriaref06.Kind -/
def d_noriaref06_Kind : DFun := ⟨
  .seq (.ops false [⟨some 1, .bref (.t 0), none⟩, ⟨some 2, .mv (.c (.int .i64 0)), none⟩])
  (.seq (.seq (.ops false [⟨some 3, .faddr 0 (.t 1), none⟩, ⟨some 4, .load none (.t 3), none⟩, ⟨some 5, .bin .eql (.t 4) (.c (.int .i64 1)), none⟩, ⟨some 6, .mv (.t 5), none⟩, ⟨some 7, .faddr 0 (.t 1), some (6, false)⟩, ⟨some 8, .load none (.t 7), some (6, false)⟩, ⟨some 9, .bin .eql (.t 8) (.c (.int .i64 2)), some (6, false)⟩, ⟨some 10, .pick (.t 6) (.c (.bool true)) (.t 9), none⟩])
  (.cond (.t 10) (.seq (.ops false [⟨some 11, .faddr 0 (.t 1), none⟩, ⟨some 12, .load none (.t 11), none⟩, ⟨some 2, .mv (.t 12), none⟩])
   (.ret))
   (.skip)))
  (.seq (.seq (.ops false [⟨some 13, .faddr 0 (.t 1), none⟩, ⟨some 14, .load none (.t 13), none⟩, ⟨some 15, .bin .eql (.t 14) (.c (.int .i64 3)), none⟩, ⟨some 16, .mv (.t 15), none⟩, ⟨some 17, .faddr 1 (.t 1), some (16, true)⟩, ⟨some 18, .load none (.t 17), some (16, true)⟩, ⟨some 19, .bin .geq (.t 18) (.c (.int .i64 0)), some (16, true)⟩, ⟨some 20, .pick (.t 16) (.t 19) (.c (.bool false)), none⟩, ⟨some 21, .mv (.t 20), none⟩, ⟨some 22, .faddr 1 (.t 1), some (21, true)⟩, ⟨some 23, .load none (.t 22), some (21, true)⟩, ⟨some 24, .bin .leq (.t 23) (.c (.int .i64 1000)), some (21, true)⟩, ⟨some 25, .pick (.t 21) (.t 24) (.c (.bool false)), none⟩])
  (.cond (.t 25) (.seq (.ops false [⟨some 26, .faddr 1 (.t 1), none⟩, ⟨some 27, .load none (.t 26), none⟩, ⟨some 28, .bin .add (.c (.int .i64 3)) (.t 27), none⟩, ⟨some 2, .mv (.t 28), none⟩])
   (.ret))
   (.skip)))
  (.seq (.ops false [⟨some 2, .mv (.c (.int .i64 0)), none⟩])
  (.ret)))),
  [.t 2]⟩

/- noria/val.Same -/
def d_val_Same : DFun := ⟨
  .seq (.ops false [⟨some 4, .mv (.c (.bool false)), none⟩])
  (.seq (.ops false [⟨some 5, .mv (.t 0), none⟩, ⟨some 6, .mv (.t 1), none⟩, ⟨some 7, .callP 33 [(.t 5), (.t 6)], none⟩, ⟨some 4, .mv (.t 7), none⟩])
  (.ret)),
  [.t 4]⟩

/- noria/val.cells -/
def d_val_cells : DFun := ⟨
  .seq (.ops false [⟨some 2, .bref (.t 0), none⟩, ⟨some 3, .bref (.t 1), none⟩, ⟨some 4, .mv (.c (.undef)), none⟩])
  (.seq (.seq (.ops false [⟨some 5, .faddr 0 (.t 3), none⟩, ⟨some 6, .load none (.t 5), none⟩])
  (.block 0 (.seq (.ops false [⟨some 8, .bin .eql (.t 6) (.c (.int .i64 2)), none⟩, ⟨some 7, .mv (.t 8), none⟩])
   (.cond (.t 7) (.seq (.ops false [⟨some 4, .mv (.c (.clo 34 [])), none⟩])
    (.ret))
    (.seq (.ops false [⟨some 10, .bin .eql (.t 6) (.c (.int .i64 3)), none⟩, ⟨some 9, .mv (.t 10), none⟩])
    (.cond (.t 9) (.seq (.ops false [⟨some 11, .mkfun 36 [(.t 2), (.t 3)], none⟩, ⟨some 4, .mv (.t 11), none⟩])
     (.ret))
     (.skip)))))))
  (.seq (.ops false [⟨some 4, .mv (.c (.clo 37 [])), none⟩])
  (.ret))),
  [.t 4]⟩

/- strings.Join -/
def d_strings_Join : DFun := ⟨
  .seq (.ops false [⟨some 4, .mv (.c (.str [])), none⟩])
  (.seq (.seq (.ops false [⟨some 11, .mv (.t 0), none⟩, ⟨some 12, .len (.t 11), none⟩])
  (.block 0 (.seq (.ops false [⟨some 14, .bin .eql (.t 12) (.c (.int .i64 0)), none⟩, ⟨some 13, .mv (.t 14), none⟩])
   (.cond (.t 13) (.seq (.ops false [⟨some 4, .mv (.c (.str [])), none⟩])
    (.ret))
    (.seq (.ops false [⟨some 16, .bin .eql (.t 12) (.c (.int .i64 1)), none⟩, ⟨some 15, .mv (.t 16), none⟩])
    (.cond (.t 15) (.seq (.ops false [⟨some 17, .mv (.t 0), none⟩, ⟨some 18, .iaddr 1 (.t 17) (.c (.int .i64 0)), none⟩, ⟨some 19, .load none (.t 18), none⟩, ⟨some 4, .mv (.t 19), none⟩])
     (.ret))
     (.skip)))))))
  (.seq (.ops false [⟨some 5, .mv (.c (.int .i64 0)), none⟩])
  (.seq (.seq (.ops false [⟨some 20, .mv (.t 1), none⟩, ⟨some 21, .lenS (.t 20), none⟩, ⟨some 22, .bin .gtr (.t 21) (.c (.int .i64 0)), none⟩])
  (.cond (.t 22) (.seq (.seq (.ops false [⟨some 23, .mv (.t 1), none⟩, ⟨some 24, .lenS (.t 23), none⟩, ⟨some 25, .mv (.t 0), none⟩, ⟨some 26, .len (.t 25), none⟩, ⟨some 27, .bin .sub (.t 26) (.c (.int .i64 1)), none⟩, ⟨some 28, .bin .quo (.c (.int .i64 9223372036854775807)) (.t 27), none⟩, ⟨some 29, .bin .geq (.t 24) (.t 28), none⟩])
   (.cond (.t 29) (.ops false [⟨some 30, .bad, none⟩, ⟨none, .bad, none⟩])
    (.skip)))
   (.ops false [⟨some 31, .mv (.t 5), none⟩, ⟨some 32, .mv (.t 1), none⟩, ⟨some 33, .lenS (.t 32), none⟩, ⟨some 34, .mv (.t 0), none⟩, ⟨some 35, .len (.t 34), none⟩, ⟨some 36, .bin .sub (.t 35) (.c (.int .i64 1)), none⟩, ⟨some 37, .bin .mul (.t 33) (.t 36), none⟩, ⟨some 38, .bin .add (.t 31) (.t 37), none⟩, ⟨some 5, .mv (.t 38), none⟩]))
   (.skip)))
  (.seq (.seq (.ops false [⟨some 39, .mv (.t 0), none⟩, ⟨some 40, .len (.t 39), none⟩, ⟨some 41, .mv (.c (.int .i64 0)), none⟩])
  (.block 1 (.loop [0, 1, 5, 39, 40, 41] (some 0) (.seq (.ops false [⟨some 42, .bin .lss (.t 41) (.t 40), none⟩])
    (.seq (.cond (.t 42) (.skip)
     (.exit 1))
    (.seq (.block 2 (.seq (.ops false [⟨some 43, .iaddr 1 (.t 39) (.t 41), none⟩, ⟨some 44, .load none (.t 43), none⟩, ⟨some 7, .mv (.t 44), none⟩])
     (.seq (.seq (.ops false [⟨some 45, .mv (.t 7), none⟩, ⟨some 46, .lenS (.t 45), none⟩, ⟨some 47, .mv (.t 5), none⟩, ⟨some 48, .bin .sub (.c (.int .i64 9223372036854775807)) (.t 47), none⟩, ⟨some 49, .bin .gtr (.t 46) (.t 48), none⟩])
     (.cond (.t 49) (.ops false [⟨some 50, .bad, none⟩, ⟨none, .bad, none⟩])
      (.skip)))
     (.ops false [⟨some 51, .mv (.t 5), none⟩, ⟨some 52, .mv (.t 7), none⟩, ⟨some 53, .lenS (.t 52), none⟩, ⟨some 54, .bin .add (.t 51) (.t 53), none⟩, ⟨some 5, .mv (.t 54), none⟩]))))
    (.ops false [⟨some 55, .bin .add (.t 41) (.c (.int .i64 1)), none⟩, ⟨some 41, .mv (.t 55), none⟩])))))))
  (.seq (.ops false [⟨some 8, .alloc [.nilp, .nil], none⟩])
  (.seq (.ops false [⟨some 56, .mv (.t 5), none⟩, ⟨some 57, .callH 39 [(.t 8), (.t 56)], none⟩])
  (.seq (.ops false [⟨some 58, .mv (.t 0), none⟩, ⟨some 59, .iaddr 1 (.t 58) (.c (.int .i64 0)), none⟩, ⟨some 60, .load none (.t 59), none⟩, ⟨some 61, .callH 40 [(.t 8), (.t 60)], none⟩])
  (.seq (.seq (.ops false [⟨some 62, .mv (.t 0), none⟩, ⟨some 63, .slice 1 (.t 62) (some (.c (.int .i64 1))) none none, none⟩, ⟨some 64, .len (.t 63), none⟩, ⟨some 65, .mv (.c (.int .i64 0)), none⟩])
  (.block 3 (.loop [1, 8, 63, 64, 65] (some 1) (.seq (.ops false [⟨some 66, .bin .lss (.t 65) (.t 64), none⟩])
    (.seq (.cond (.t 66) (.skip)
     (.exit 3))
    (.seq (.block 4 (.seq (.ops false [⟨some 67, .iaddr 1 (.t 63) (.t 65), none⟩, ⟨some 68, .load none (.t 67), none⟩, ⟨some 10, .mv (.t 68), none⟩])
     (.seq (.ops false [⟨some 69, .mv (.t 1), none⟩, ⟨some 70, .callH 40 [(.t 8), (.t 69)], none⟩])
     (.ops false [⟨some 71, .mv (.t 10), none⟩, ⟨some 72, .callH 40 [(.t 8), (.t 71)], none⟩]))))
    (.ops false [⟨some 73, .bin .add (.t 65) (.c (.int .i64 1)), none⟩, ⟨some 65, .mv (.t 73), none⟩])))))))
  (.seq (.ops false [⟨some 74, .callH 41 [(.t 8)], none⟩, ⟨some 4, .mv (.t 74), none⟩])
  (.ret)))))))))),
  [.t 4]⟩

/- noria/noriaref06.cell -/
def d_noriaref06_cell : DFun := ⟨
  .seq (.ops false [⟨some 4, .bref (.t 1), none⟩, ⟨some 6, .mv (.c (.str [])), none⟩])
  (.seq (.seq (.ops false [⟨some 7, .faddr 0 (.t 4), none⟩, ⟨some 8, .load none (.t 7), none⟩, ⟨some 9, .bin .eql (.t 8) (.c (.int .i64 2)), none⟩, ⟨some 10, .mv (.t 9), none⟩, ⟨some 11, .mv (.t 2), some (10, true)⟩, ⟨some 12, .bin .eql (.t 11) (.c (.int .i64 1)), some (10, true)⟩, ⟨some 13, .pick (.t 10) (.t 12) (.c (.bool false)), none⟩])
  (.cond (.t 13) (.seq (.ops false [⟨some 6, .mv (.c (.str [116, 114, 117, 101])), none⟩])
   (.ret))
   (.skip)))
  (.seq (.seq (.ops false [⟨some 14, .faddr 0 (.t 4), none⟩, ⟨some 15, .load none (.t 14), none⟩, ⟨some 16, .bin .eql (.t 15) (.c (.int .i64 2)), none⟩])
  (.cond (.t 16) (.seq (.ops false [⟨some 6, .mv (.c (.str [102, 97, 108, 115, 101])), none⟩])
   (.ret))
   (.skip)))
  (.seq (.seq (.ops false [⟨some 17, .faddr 0 (.t 4), none⟩, ⟨some 18, .load none (.t 17), none⟩, ⟨some 19, .bin .eql (.t 18) (.c (.int .i64 3)), none⟩])
  (.cond (.t 19) (.seq (.ops false [⟨some 20, .mv (.t 0), none⟩, ⟨some 21, .faddr 1 (.t 4), none⟩, ⟨some 22, .load none (.t 21), none⟩, ⟨some 23, .iaddr 2 (.t 20) (.t 22), none⟩, ⟨some 24, .faddr 1 (.t 23), none⟩, ⟨some 25, .load none (.t 24), none⟩, ⟨some 26, .mv (.t 2), none⟩, ⟨some 27, .iaddr 1 (.t 25) (.t 26), none⟩, ⟨some 28, .load none (.t 27), none⟩, ⟨some 6, .mv (.t 28), none⟩])
   (.ret))
   (.skip)))
  (.seq (.ops false [⟨some 29, .mv (.t 2), none⟩, ⟨some 30, .callP 42 [(.t 29)], none⟩, ⟨some 6, .mv (.t 30), none⟩])
  (.ret))))),
  [.t 6]⟩

/- noria/noriaref04.Low -/
def d_noriaref04_Low : DFun := ⟨
  .seq (.ops false [⟨some 2, .mv (.c (.bool false)), none⟩])
  (.seq (.ops false [⟨some 3, .mv (.t 0), none⟩, ⟨some 4, .callP 43 [(.t 3), (.c (.int .u8 97)), (.c (.int .u8 122))], none⟩, ⟨some 5, .mv (.t 4), none⟩, ⟨some 6, .mv (.t 0), some (5, true)⟩, ⟨some 7, .callP 44 [(.t 6)], some (5, true)⟩, ⟨some 8, .un .not (.t 7), some (5, true)⟩, ⟨some 9, .pick (.t 5) (.t 8) (.c (.bool false)), none⟩, ⟨some 2, .mv (.t 9), none⟩])
  (.ret)),
  [.t 2]⟩

/- noria/noriaref04.High -/
def d_noriaref04_High : DFun := ⟨
  .seq (.ops false [⟨some 2, .mv (.c (.bool false)), none⟩])
  (.seq (.ops false [⟨some 3, .mv (.t 0), none⟩, ⟨some 4, .callP 43 [(.t 3), (.c (.int .u8 65)), (.c (.int .u8 90))], none⟩, ⟨some 2, .mv (.t 4), none⟩])
  (.ret)),
  [.t 2]⟩

/- noria/noriaref04.Once -/
def d_noriaref04_Once : DFun := ⟨
  .seq (.ops false [⟨some 2, .mv (.c (.bool false)), none⟩])
  (.seq (.seq (.ops false [⟨some 3, .mv (.c (.int .i64 0)), none⟩])
  (.block 0 (.loop [0, 3] (some 0) (.seq (.seq (.ops false [⟨some 5, .mv (.t 3), none⟩, ⟨some 6, .mv (.t 0), none⟩, ⟨some 7, .len (.t 6), none⟩, ⟨some 8, .bin .lss (.t 5) (.t 7), none⟩])
    (.cond (.t 8) (.skip)
     (.exit 0)))
    (.seq (.block 1 (.seq (.ops false [⟨some 4, .mv (.c (.int .i64 0)), none⟩])
     (.block 2 (.loop [0, 3, 4] (some 0) (.seq (.seq (.ops false [⟨some 11, .mv (.t 4), none⟩, ⟨some 12, .mv (.t 3), none⟩, ⟨some 13, .bin .lss (.t 11) (.t 12), none⟩])
       (.cond (.t 13) (.skip)
        (.exit 2)))
       (.seq (.block 3 (.seq (.ops true [⟨some 16, .mv (.t 0), none⟩, ⟨some 17, .mv (.t 4), none⟩, ⟨some 18, .iaddr 1 (.t 16) (.t 17), none⟩, ⟨some 19, .load none (.t 18), none⟩, ⟨some 20, .mv (.t 0), none⟩, ⟨some 21, .mv (.t 3), none⟩, ⟨some 22, .iaddr 1 (.t 20) (.t 21), none⟩, ⟨some 23, .load none (.t 22), none⟩, ⟨some 24, .bin .eql (.t 19) (.t 23), none⟩])
        (.cond (.t 24) (.seq (.ops false [⟨some 2, .mv (.c (.bool false)), none⟩])
         (.ret))
         (.skip))))
       (.ops false [⟨some 14, .mv (.t 4), none⟩, ⟨some 15, .bin .add (.t 14) (.c (.int .i64 1)), none⟩, ⟨some 4, .mv (.t 15), none⟩])))))))
    (.ops false [⟨some 9, .mv (.t 3), none⟩, ⟨some 10, .bin .add (.t 9) (.c (.int .i64 1)), none⟩, ⟨some 3, .mv (.t 10), none⟩]))))))
  (.seq (.ops false [⟨some 2, .mv (.c (.bool true)), none⟩])
  (.ret))),
  [.t 2]⟩

/- noria/val.Right$1 -/
def d_val_Right_1 : DFun := ⟨
  .seq (.ops false [⟨some 4, .mv (.c (.bool false)), none⟩])
  (.seq (.ops false [⟨some 5, .load none (.t 1), none⟩, ⟨some 6, .load (some 3) (.t 2), none⟩, ⟨some 7, .mv (.t 0), none⟩, ⟨some 8, .callP 15 [(.t 5), (.t 6), (.t 7)], none⟩, ⟨some 9, .un .not (.t 8), none⟩, ⟨some 4, .mv (.t 9), none⟩])
  (.ret)),
  [.t 4]⟩

/- noria/ty.Right -/
def d_ty_Right : DFun := ⟨
  .seq (.ops false [⟨some 3, .box (.t 1), none⟩, ⟨some 4, .mv (.c (.bool false)), none⟩])
  (.seq (.seq (.ops false [⟨some 5, .faddr 2 (.t 3), none⟩, ⟨some 6, .load none (.t 5), none⟩, ⟨some 7, .bin .lss (.t 6) (.c (.int .i64 0)), none⟩, ⟨some 8, .mv (.t 7), none⟩, ⟨some 9, .faddr 2 (.t 3), some (8, false)⟩, ⟨some 10, .load none (.t 9), some (8, false)⟩, ⟨some 11, .bin .gtr (.t 10) (.c (.int .i64 8)), some (8, false)⟩, ⟨some 12, .pick (.t 8) (.c (.bool true)) (.t 11), none⟩])
  (.cond (.t 12) (.seq (.ops false [⟨some 4, .mv (.c (.bool false)), none⟩])
   (.ret))
   (.skip)))
  (.seq (.seq (.ops false [⟨some 13, .faddr 0 (.t 3), none⟩, ⟨some 14, .load none (.t 13), none⟩])
  (.block 0 (.seq (.seq (.ops false [⟨some 16, .bin .eql (.t 14) (.c (.int .i64 1)), none⟩, ⟨some 15, .mv (.t 16), none⟩])
   (.cond (.t 15) (.skip)
    (.ops false [⟨some 17, .bin .eql (.t 14) (.c (.int .i64 2)), none⟩, ⟨some 15, .mv (.t 17), none⟩])))
   (.cond (.t 15) (.seq (.ops false [⟨some 18, .faddr 1 (.t 3), none⟩, ⟨some 19, .load none (.t 18), none⟩, ⟨some 20, .bin .eql (.t 19) (.c (.int .i64 0)), none⟩, ⟨some 4, .mv (.t 20), none⟩])
    (.ret))
    (.seq (.ops false [⟨some 22, .bin .eql (.t 14) (.c (.int .i64 3)), none⟩, ⟨some 21, .mv (.t 22), none⟩])
    (.cond (.t 21) (.seq (.ops false [⟨some 23, .faddr 1 (.t 3), none⟩, ⟨some 24, .load none (.t 23), none⟩, ⟨some 25, .bin .geq (.t 24) (.c (.int .i64 0)), none⟩, ⟨some 26, .mv (.t 25), none⟩, ⟨some 27, .faddr 1 (.t 3), some (26, true)⟩, ⟨some 28, .load none (.t 27), some (26, true)⟩, ⟨some 29, .mv (.t 0), some (26, true)⟩, ⟨some 30, .len (.t 29), some (26, true)⟩, ⟨some 31, .bin .lss (.t 28) (.t 30), some (26, true)⟩, ⟨some 32, .pick (.t 26) (.t 31) (.c (.bool false)), none⟩, ⟨some 4, .mv (.t 32), none⟩])
     (.ret))
     (.skip)))))))
  (.seq (.ops false [⟨some 4, .mv (.c (.bool false)), none⟩])
  (.ret)))),
  [.t 4]⟩

/- noria/ty.Cells -/
def d_ty_Cells : DFun := ⟨
  .seq (.ops false [⟨some 1, .box (.t 0), none⟩, ⟨some 2, .mv (.c (.int .i64 0)), none⟩])
  (.seq (.ops false [⟨some 3, .faddr 2 (.t 1), none⟩, ⟨some 4, .load none (.t 3), none⟩, ⟨some 5, .minmax true (.t 4) (.c (.int .i64 1)), none⟩, ⟨some 6, .minmax false (.t 5) (.c (.int .i64 8)), none⟩, ⟨some 2, .mv (.t 6), none⟩])
  (.ret)),
  [.t 2]⟩

/- slices.ContainsFunc[[]int64,int64] -/
def d_slices_ContainsFunc_int64_int64 : DFun := ⟨
  .seq (.ops false [⟨some 4, .mv (.c (.bool false)), none⟩])
  (.seq (.ops false [⟨some 5, .mv (.t 0), none⟩, ⟨some 6, .mv (.t 1), none⟩, ⟨some 7, .callP 45 [(.t 5), (.t 6)], none⟩, ⟨some 8, .bin .geq (.t 7) (.c (.int .i64 0)), none⟩, ⟨some 4, .mv (.t 8), none⟩])
  (.ret)),
  [.t 4]⟩

/- noria/noriaref05.Cells -/
def d_noriaref05_Cells : DFun := ⟨
  .seq (.ops false [⟨some 1, .box (.t 0), none⟩, ⟨some 2, .mv (.c (.int .i64 0)), none⟩])
  (.seq (.seq (.ops false [⟨some 3, .faddr 2 (.t 1), none⟩, ⟨some 4, .load none (.t 3), none⟩, ⟨some 5, .bin .lss (.t 4) (.c (.int .i64 1)), none⟩])
  (.cond (.t 5) (.seq (.ops false [⟨some 2, .mv (.c (.int .i64 1)), none⟩])
   (.ret))
   (.skip)))
  (.seq (.seq (.ops false [⟨some 6, .faddr 2 (.t 1), none⟩, ⟨some 7, .load none (.t 6), none⟩, ⟨some 8, .bin .gtr (.t 7) (.c (.int .i64 8)), none⟩])
  (.cond (.t 8) (.seq (.ops false [⟨some 2, .mv (.c (.int .i64 8)), none⟩])
   (.ret))
   (.skip)))
  (.seq (.ops false [⟨some 9, .faddr 2 (.t 1), none⟩, ⟨some 10, .load none (.t 9), none⟩, ⟨some 2, .mv (.t 10), none⟩])
  (.ret)))),
  [.t 2]⟩

/- slices.Equal[[]int64,int64] -/
def d_slices_Equal_int64_int64 : DFun := ⟨
  .seq (.ops false [⟨some 4, .mv (.c (.bool false)), none⟩])
  (.seq (.seq (.ops false [⟨some 6, .mv (.t 0), none⟩, ⟨some 7, .len (.t 6), none⟩, ⟨some 8, .mv (.t 1), none⟩, ⟨some 9, .len (.t 8), none⟩, ⟨some 10, .bin .neq (.t 7) (.t 9), none⟩])
  (.cond (.t 10) (.seq (.ops false [⟨some 4, .mv (.c (.bool false)), none⟩])
   (.ret))
   (.skip)))
  (.seq (.seq (.ops false [⟨some 11, .mv (.t 0), none⟩, ⟨some 12, .len (.t 11), none⟩, ⟨some 13, .mv (.c (.int .i64 0)), none⟩])
  (.block 0 (.loop [0, 1, 12, 13] (some 0) (.seq (.ops false [⟨some 14, .bin .lss (.t 13) (.t 12), none⟩])
    (.seq (.cond (.t 14) (.skip)
     (.exit 0))
    (.seq (.block 1 (.seq (.ops false [⟨some 15, .mv (.t 13), none⟩, ⟨some 5, .mv (.t 15), none⟩])
     (.seq (.ops true [⟨some 16, .mv (.t 0), none⟩, ⟨some 17, .mv (.t 5), none⟩, ⟨some 18, .iaddr 1 (.t 16) (.t 17), none⟩, ⟨some 19, .load none (.t 18), none⟩, ⟨some 20, .mv (.t 1), none⟩, ⟨some 21, .mv (.t 5), none⟩, ⟨some 22, .iaddr 1 (.t 20) (.t 21), none⟩, ⟨some 23, .load none (.t 22), none⟩, ⟨some 24, .bin .neq (.t 19) (.t 23), none⟩])
     (.cond (.t 24) (.seq (.ops false [⟨some 4, .mv (.c (.bool false)), none⟩])
      (.ret))
      (.skip)))))
    (.ops false [⟨some 25, .bin .add (.t 13) (.c (.int .i64 1)), none⟩, ⟨some 13, .mv (.t 25), none⟩])))))))
  (.seq (.ops false [⟨some 4, .mv (.c (.bool true)), none⟩])
  (.ret)))),
  [.t 4]⟩

/- noria/val.cells$1 -/
def d_val_cells_1 : DFun := ⟨
  .seq (.ops false [⟨some 2, .mv (.c (.str [])), none⟩])
  (.seq (.ops false [⟨some 3, .mv (.t 0), none⟩, ⟨some 4, .bin .neq (.t 3) (.c (.int .i64 0)), none⟩, ⟨some 5, .callP 35 [(.t 4)], none⟩, ⟨some 2, .mv (.t 5), none⟩])
  (.ret)),
  [.t 2]⟩

/- strconv.FormatBool -/
def d_strconv_FormatBool : DFun := ⟨
  .seq (.ops false [⟨some 2, .mv (.c (.str [])), none⟩])
  (.seq (.ops false [⟨some 3, .mv (.t 0), none⟩, ⟨some 4, .callP 46 [(.t 3)], none⟩, ⟨some 2, .mv (.t 4), none⟩])
  (.ret)),
  [.t 2]⟩

/- noria/val.cells$2 -/
def d_val_cells_2 : DFun := ⟨
  .seq (.ops false [⟨some 4, .mv (.c (.str [])), none⟩])
  (.seq (.ops false [⟨some 5, .load none (.t 1), none⟩, ⟨some 6, .faddr 1 (.t 2), none⟩, ⟨some 7, .load none (.t 6), none⟩, ⟨some 8, .iaddr 2 (.t 5) (.t 7), none⟩, ⟨some 9, .faddr 1 (.t 8), none⟩, ⟨some 10, .load none (.t 9), none⟩, ⟨some 11, .mv (.t 0), none⟩, ⟨some 12, .iaddr 1 (.t 10) (.t 11), none⟩, ⟨some 13, .load none (.t 12), none⟩, ⟨some 4, .mv (.t 13), none⟩])
  (.ret)),
  [.t 4]⟩

/- noria/val.cells$3 -/
def d_val_cells_3 : DFun := ⟨
  .seq (.ops false [⟨some 2, .mv (.c (.str [])), none⟩])
  (.seq (.ops false [⟨some 3, .mv (.t 0), none⟩, ⟨some 4, .callP 38 [(.t 3), (.c (.int .i64 10))], none⟩, ⟨some 2, .mv (.t 4), none⟩])
  (.ret)),
  [.t 2]⟩

/- strconv.FormatInt -/
def d_strconv_FormatInt : DFun := ⟨
  .seq (.ops false [⟨some 4, .mv (.c (.str [])), none⟩])
  (.seq (.ops false [⟨some 5, .mv (.t 0), none⟩, ⟨some 6, .mv (.t 1), none⟩, ⟨some 7, .callP 47 [(.t 5), (.t 6)], none⟩, ⟨some 4, .mv (.t 7), none⟩])
  (.ret)),
  [.t 4]⟩

/- (*strings.Builder).Grow -/
def d_strings_Builder_Grow : DFun := ⟨
  .seq (.ops false [⟨some 4, .mv (.t 0), none⟩, ⟨some 5, .callH 48 [(.t 4)], none⟩])
  (.seq (.seq (.ops false [⟨some 6, .mv (.t 1), none⟩, ⟨some 7, .bin .lss (.t 6) (.c (.int .i64 0)), none⟩])
  (.cond (.t 7) (.ops false [⟨some 8, .bad, none⟩, ⟨none, .bad, none⟩])
   (.skip)))
  (.seq (.opsP [(0, ⟨some 9, .mv (.t 0), none⟩), (1, ⟨some 10, .nilck (.t 9), none⟩), (2, ⟨some 11, .faddr 1 (.t 10), none⟩), (3, ⟨some 12, .load none (.t 11), none⟩), (5, ⟨some 14, .mv (.t 0), none⟩), (6, ⟨some 15, .nilck (.t 14), none⟩), (7, ⟨some 16, .faddr 1 (.t 15), none⟩), (8, ⟨some 17, .load none (.t 16), none⟩), (9, ⟨some 18, .len (.t 17), none⟩), (11, ⟨some 20, .mv (.t 1), none⟩), (4, ⟨some 13, .capn (.t 12), none⟩), (10, ⟨some 19, .bin .sub (.t 13) (.t 18), none⟩), (12, ⟨some 21, .bin .lss (.t 19) (.t 20), none⟩)])
  (.cond (.t 21) (.ops false [⟨some 22, .mv (.t 0), none⟩, ⟨some 23, .mv (.t 1), none⟩, ⟨some 24, .callH 49 [(.t 22), (.t 23)], none⟩])
   (.skip)))),
  []⟩

/- (*strings.Builder).WriteString -/
def d_strings_Builder_WriteString : DFun := ⟨
  .seq (.ops false [⟨some 4, .mv (.c (.int .i64 0)), none⟩, ⟨some 5, .mv (.c (.undef)), none⟩])
  (.seq (.ops false [⟨some 6, .mv (.t 0), none⟩, ⟨some 7, .callH 48 [(.t 6)], none⟩])
  (.seq (.ops false [⟨some 8, .mv (.t 0), none⟩, ⟨some 9, .mv (.t 0), none⟩, ⟨some 10, .nilck (.t 9), none⟩, ⟨some 11, .faddr 1 (.t 10), none⟩, ⟨some 12, .load none (.t 11), none⟩, ⟨some 13, .mv (.t 1), none⟩, ⟨some 14, .append 1 (.t 12) (.t 13), none⟩, ⟨some 15, .nilck (.t 8), none⟩, ⟨some 16, .faddr 1 (.t 15), none⟩, ⟨none, .store 1 (.t 16) (.t 14), none⟩])
  (.seq (.ops false [⟨some 17, .mv (.t 1), none⟩, ⟨some 18, .lenS (.t 17), none⟩, ⟨some 4, .mv (.t 18), none⟩, ⟨some 5, .mv (.c (.undef)), none⟩])
  (.ret)))),
  [.t 4, .t 5]⟩

/- (*strings.Builder).String -/
def d_strings_Builder_String : DFun := ⟨
  .seq (.ops false [⟨some 2, .mv (.c (.str [])), none⟩])
  (.seq (.opsP [(0, ⟨some 3, .mv (.t 0), none⟩), (1, ⟨some 4, .nilck (.t 3), none⟩), (2, ⟨some 5, .faddr 1 (.t 4), none⟩), (3, ⟨some 6, .load none (.t 5), none⟩), (5, ⟨some 8, .mv (.t 0), none⟩), (6, ⟨some 9, .nilck (.t 8), none⟩), (7, ⟨some 10, .faddr 1 (.t 9), none⟩), (8, ⟨some 11, .load none (.t 10), none⟩), (9, ⟨some 12, .len (.t 11), none⟩), (4, ⟨some 7, .bad, none⟩), (10, ⟨some 13, .bad, none⟩), (11, ⟨some 2, .mv (.t 13), none⟩)])
  (.ret)),
  [.t 2]⟩

/- noria/noriaref06.Digits -/
def d_noriaref06_Digits : DFun := ⟨
  .seq (.ops false [⟨some 2, .mv (.c (.str [])), none⟩])
  (.seq (.ops false [⟨some 5, .mv (.t 0), none⟩, ⟨some 6, .conv .u64 (.t 5), none⟩, ⟨some 3, .mv (.t 6), none⟩])
  (.seq (.seq (.ops false [⟨some 7, .mv (.t 0), none⟩, ⟨some 8, .bin .lss (.t 7) (.c (.int .i64 0)), none⟩])
  (.cond (.t 8) (.ops false [⟨some 9, .mv (.t 3), none⟩, ⟨some 10, .bin .sub (.c (.int .u64 0)) (.t 9), none⟩, ⟨some 3, .mv (.t 10), none⟩])
   (.skip)))
  (.seq (.ops false [⟨some 4, .mv (.c (.str [])), none⟩])
  (.seq (.block 0 (.loop [0, 3, 4] (some 0) (.seq (.seq (.ops false [⟨some 11, .mv (.t 3), none⟩, ⟨some 12, .bin .gtr (.t 11) (.c (.int .u64 0)), none⟩, ⟨some 13, .mv (.t 12), none⟩, ⟨some 14, .mv (.t 4), some (13, false)⟩, ⟨some 15, .bin .eql (.t 14) (.c (.str [])), some (13, false)⟩, ⟨some 16, .pick (.t 13) (.c (.bool true)) (.t 15), none⟩])
    (.cond (.t 16) (.skip)
     (.exit 0)))
    (.block 1 (.seq (.ops false [⟨some 17, .mv (.t 3), none⟩, ⟨some 18, .bin .rem (.t 17) (.c (.int .u64 10)), none⟩, ⟨some 19, .bin .add (.c (.int .u64 48)) (.t 18), none⟩, ⟨some 20, .conv .u8 (.t 19), none⟩, ⟨some 21, .bslice true [.int .u8 0] [(some (.t 20))], none⟩, ⟨some 22, .b2s (.t 21), none⟩, ⟨some 23, .mv (.t 4), none⟩, ⟨some 24, .bin .add (.t 22) (.t 23), none⟩, ⟨some 4, .mv (.t 24), none⟩])
     (.ops false [⟨some 25, .mv (.t 3), none⟩, ⟨some 26, .bin .quo (.t 25) (.c (.int .u64 10)), none⟩, ⟨some 3, .mv (.t 26), none⟩]))))))
  (.seq (.seq (.ops false [⟨some 27, .mv (.t 0), none⟩, ⟨some 28, .bin .lss (.t 27) (.c (.int .i64 0)), none⟩])
  (.cond (.t 28) (.ops false [⟨some 29, .mv (.t 4), none⟩, ⟨some 30, .bin .add (.c (.str [45])) (.t 29), none⟩, ⟨some 4, .mv (.t 30), none⟩])
   (.skip)))
  (.seq (.ops false [⟨some 31, .mv (.t 4), none⟩, ⟨some 2, .mv (.t 31), none⟩])
  (.ret))))))),
  [.t 2]⟩

/- noria/noriaref04.name -/
def d_noriaref04_name : DFun := ⟨
  .seq (.ops false [⟨some 6, .mv (.c (.bool false)), none⟩])
  (.seq (.seq (.ops false [⟨some 8, .mv (.t 0), none⟩, ⟨some 9, .lenS (.t 8), none⟩, ⟨some 10, .bin .lss (.t 9) (.c (.int .i64 1)), none⟩, ⟨some 11, .mv (.t 10), none⟩, ⟨some 12, .mv (.t 0), some (11, false)⟩, ⟨some 13, .lenS (.t 12), some (11, false)⟩, ⟨some 14, .bin .gtr (.t 13) (.c (.int .i64 12)), some (11, false)⟩, ⟨some 15, .pick (.t 11) (.c (.bool true)) (.t 14), none⟩, ⟨some 16, .mv (.t 15), none⟩, ⟨some 17, .mv (.t 0), some (16, false)⟩, ⟨some 18, .index (.t 17) (.c (.int .i64 0)), some (16, false)⟩, ⟨some 19, .mv (.t 1), some (16, false)⟩, ⟨some 20, .mv (.t 2), some (16, false)⟩, ⟨some 21, .callP 50 [(.t 18), (.t 19), (.t 20)], some (16, false)⟩, ⟨some 22, .un .not (.t 21), some (16, false)⟩, ⟨some 23, .pick (.t 16) (.c (.bool true)) (.t 22), none⟩])
  (.cond (.t 23) (.seq (.ops false [⟨some 6, .mv (.c (.bool false)), none⟩])
   (.ret))
   (.skip)))
  (.seq (.seq (.ops false [⟨some 7, .mv (.c (.int .i64 0)), none⟩])
  (.block 0 (.loop [0, 7] (some 0) (.seq (.seq (.ops false [⟨some 24, .mv (.t 7), none⟩, ⟨some 25, .mv (.t 0), none⟩, ⟨some 26, .lenS (.t 25), none⟩, ⟨some 27, .bin .lss (.t 24) (.t 26), none⟩])
    (.cond (.t 27) (.skip)
     (.exit 0)))
    (.seq (.block 1 (.seq (.ops false [⟨some 30, .mv (.t 0), none⟩, ⟨some 31, .mv (.t 7), none⟩, ⟨some 32, .index (.t 30) (.t 31), none⟩, ⟨some 33, .callP 50 [(.t 32), (.c (.int .u8 97)), (.c (.int .u8 122))], none⟩, ⟨some 34, .un .not (.t 33), none⟩, ⟨some 35, .mv (.t 34), none⟩, ⟨some 36, .mv (.t 0), some (35, true)⟩, ⟨some 37, .mv (.t 7), some (35, true)⟩, ⟨some 38, .index (.t 36) (.t 37), some (35, true)⟩, ⟨some 39, .callP 50 [(.t 38), (.c (.int .u8 65)), (.c (.int .u8 90))], some (35, true)⟩, ⟨some 40, .un .not (.t 39), some (35, true)⟩, ⟨some 41, .pick (.t 35) (.t 40) (.c (.bool false)), none⟩, ⟨some 42, .mv (.t 41), none⟩, ⟨some 43, .mv (.t 0), some (42, true)⟩, ⟨some 44, .mv (.t 7), some (42, true)⟩, ⟨some 45, .index (.t 43) (.t 44), some (42, true)⟩, ⟨some 46, .callP 50 [(.t 45), (.c (.int .u8 48)), (.c (.int .u8 57))], some (42, true)⟩, ⟨some 47, .un .not (.t 46), some (42, true)⟩, ⟨some 48, .pick (.t 42) (.t 47) (.c (.bool false)), none⟩, ⟨some 49, .mv (.t 48), none⟩, ⟨some 50, .mv (.t 0), some (49, true)⟩, ⟨some 51, .mv (.t 7), some (49, true)⟩, ⟨some 52, .index (.t 50) (.t 51), some (49, true)⟩, ⟨some 53, .bin .neq (.t 52) (.c (.int .u8 95)), some (49, true)⟩, ⟨some 54, .pick (.t 49) (.t 53) (.c (.bool false)), none⟩])
     (.cond (.t 54) (.seq (.ops false [⟨some 6, .mv (.c (.bool false)), none⟩])
      (.ret))
      (.skip))))
    (.ops false [⟨some 28, .mv (.t 7), none⟩, ⟨some 29, .bin .add (.t 28) (.c (.int .i64 1)), none⟩, ⟨some 7, .mv (.t 29), none⟩]))))))
  (.seq (.ops false [⟨some 6, .mv (.c (.bool true)), none⟩])
  (.ret)))),
  [.t 6]⟩

/- noria/noriaref04.Word -/
def d_noriaref04_Word : DFun := ⟨
  .seq (.ops false [⟨some 2, .mv (.c (.bool false)), none⟩])
  (.seq (.ops false [⟨some 5, .callP 51 [], none⟩, ⟨some 3, .mv (.t 5), none⟩])
  (.seq (.seq (.ops false [⟨some 4, .mv (.c (.int .i64 0)), none⟩])
  (.block 0 (.loop [0, 3, 4] (some 0) (.seq (.seq (.ops false [⟨some 6, .mv (.t 4), none⟩, ⟨some 7, .mv (.t 3), none⟩, ⟨some 8, .len (.t 7), none⟩, ⟨some 9, .bin .lss (.t 6) (.t 8), none⟩])
    (.cond (.t 9) (.skip)
     (.exit 0)))
    (.seq (.block 1 (.seq (.ops false [⟨some 12, .mv (.t 3), none⟩, ⟨some 13, .mv (.t 4), none⟩, ⟨some 14, .iaddr 1 (.t 12) (.t 13), none⟩, ⟨some 15, .load none (.t 14), none⟩, ⟨some 16, .mv (.t 0), none⟩, ⟨some 17, .bin .eql (.t 15) (.t 16), none⟩])
     (.cond (.t 17) (.seq (.ops false [⟨some 2, .mv (.c (.bool true)), none⟩])
      (.ret))
      (.skip))))
    (.ops false [⟨some 10, .mv (.t 4), none⟩, ⟨some 11, .bin .add (.t 10) (.c (.int .i64 1)), none⟩, ⟨some 4, .mv (.t 11), none⟩]))))))
  (.seq (.ops false [⟨some 2, .mv (.c (.bool false)), none⟩])
  (.ret)))),
  [.t 2]⟩

/- slices.IndexFunc[[]int64,int64] -/
def d_slices_IndexFunc_int64_int64 : DFun := ⟨
  .seq (.ops false [⟨some 4, .mv (.c (.int .i64 0)), none⟩])
  (.seq (.seq (.ops false [⟨some 6, .mv (.t 0), none⟩, ⟨some 7, .len (.t 6), none⟩, ⟨some 8, .mv (.c (.int .i64 0)), none⟩])
  (.block 0 (.loop [0, 1, 7, 8] (some 0) (.seq (.ops false [⟨some 9, .bin .lss (.t 8) (.t 7), none⟩])
    (.seq (.cond (.t 9) (.skip)
     (.exit 0))
    (.seq (.block 1 (.seq (.ops false [⟨some 10, .mv (.t 8), none⟩, ⟨some 5, .mv (.t 10), none⟩])
     (.seq (.ops false [⟨some 11, .mv (.t 1), none⟩, ⟨some 12, .mv (.t 0), none⟩, ⟨some 13, .mv (.t 5), none⟩, ⟨some 14, .iaddr 1 (.t 12) (.t 13), none⟩, ⟨some 15, .load none (.t 14), none⟩, ⟨some 16, .callvP (.t 11) [(.t 15)], none⟩])
     (.cond (.t 16) (.seq (.ops false [⟨some 17, .mv (.t 5), none⟩, ⟨some 4, .mv (.t 17), none⟩])
      (.ret))
      (.skip)))))
    (.ops false [⟨some 18, .bin .add (.t 8) (.c (.int .i64 1)), none⟩, ⟨some 8, .mv (.t 18), none⟩])))))))
  (.seq (.ops false [⟨some 4, .mv (.c (.int .i64 (-1))), none⟩])
  (.ret))),
  [.t 4]⟩

/- internal/strconv.FormatBool -/
def d_internal_strconv_FormatBool : DFun := ⟨
  .seq (.ops false [⟨some 2, .mv (.c (.str [])), none⟩])
  (.seq (.seq (.ops false [⟨some 3, .mv (.t 0), none⟩])
  (.cond (.t 3) (.seq (.ops false [⟨some 2, .mv (.c (.str [116, 114, 117, 101])), none⟩])
   (.ret))
   (.skip)))
  (.seq (.ops false [⟨some 2, .mv (.c (.str [102, 97, 108, 115, 101])), none⟩])
  (.ret))),
  [.t 2]⟩

/- internal/strconv.FormatInt -/
def d_internal_strconv_FormatInt : DFun := ⟨
  .seq (.ops false [⟨some 4, .mv (.c (.str [])), none⟩])
  (.seq (.seq (.ops false [⟨some 10, .mv (.t 1), none⟩, ⟨some 11, .bin .eql (.t 10) (.c (.int .i64 10)), none⟩])
  (.cond (.t 11) (.seq (.seq (.ops false [⟨some 12, .mv (.t 0), none⟩, ⟨some 13, .bin .leq (.c (.int .i64 0)) (.t 12), none⟩, ⟨some 14, .mv (.t 13), none⟩, ⟨some 15, .mv (.t 0), some (14, true)⟩, ⟨some 16, .bin .lss (.t 15) (.c (.int .i64 100)), some (14, true)⟩, ⟨some 17, .pick (.t 14) (.t 16) (.c (.bool false)), none⟩])
   (.cond (.t 17) (.seq (.ops false [⟨some 18, .mv (.t 0), none⟩, ⟨some 19, .callP 52 [(.t 18)], none⟩, ⟨some 4, .mv (.t 19), none⟩])
    (.ret))
    (.skip)))
   (.seq (.ops false [⟨some 5, .alloc [.int .u8 0, .int .u8 0, .int .u8 0, .int .u8 0, .int .u8 0, .int .u8 0, .int .u8 0, .int .u8 0, .int .u8 0, .int .u8 0, .int .u8 0, .int .u8 0, .int .u8 0, .int .u8 0, .int .u8 0, .int .u8 0, .int .u8 0, .int .u8 0, .int .u8 0, .int .u8 0, .int .u8 0, .int .u8 0, .int .u8 0, .int .u8 0], none⟩])
   (.seq (.ops false [⟨some 20, .mv (.t 0), none⟩, ⟨some 21, .conv .u64 (.t 20), none⟩, ⟨some 6, .mv (.t 21), none⟩])
   (.seq (.seq (.ops false [⟨some 22, .mv (.t 0), none⟩, ⟨some 23, .bin .lss (.t 22) (.c (.int .i64 0)), none⟩])
   (.cond (.t 23) (.ops false [⟨some 24, .mv (.t 6), none⟩, ⟨some 25, .un .neg (.t 24), none⟩, ⟨some 6, .mv (.t 25), none⟩])
    (.skip)))
   (.seq (.ops false [⟨some 26, .mv (.t 6), none⟩, ⟨some 27, .callP 53 [(.t 26)], none⟩, ⟨some 7, .mv (.t 27), none⟩])
   (.seq (.ops false [⟨some 28, .mv (.t 7), none⟩, ⟨some 29, .bin .add (.c (.int .i64 1)) (.t 28), none⟩, ⟨some 30, .bad, none⟩, ⟨some 31, .mv (.t 6), none⟩, ⟨some 32, .callP 54 [(.t 30), (.t 31)], none⟩])
   (.seq (.seq (.ops false [⟨some 33, .mv (.t 0), none⟩, ⟨some 34, .bin .lss (.t 33) (.c (.int .i64 0)), none⟩])
   (.cond (.t 34) (.seq (.ops false [⟨some 35, .iaddrA 24 1 (.t 5) (.c (.int .i64 0)), none⟩, ⟨none, .store 1 (.t 35) (.c (.int .u8 45)), none⟩])
    (.seq (.ops false [⟨some 36, .mv (.t 7), none⟩, ⟨some 37, .bin .add (.c (.int .i64 1)) (.t 36), none⟩, ⟨some 38, .bad, none⟩, ⟨some 39, .b2s (.t 38), none⟩, ⟨some 4, .mv (.t 39), none⟩])
    (.ret)))
    (.skip)))
   (.seq (.ops false [⟨some 40, .mv (.t 7), none⟩, ⟨some 41, .bin .add (.c (.int .i64 1)) (.t 40), none⟩, ⟨some 42, .bad, none⟩, ⟨some 43, .b2s (.t 42), none⟩, ⟨some 4, .mv (.t 43), none⟩])
   (.ret)))))))))
   (.skip)))
  (.seq (.ops false [⟨some 45, .mv (.t 0), none⟩, ⟨some 46, .conv .u64 (.t 45), none⟩, ⟨some 47, .mv (.t 1), none⟩, ⟨some 48, .mv (.t 0), none⟩, ⟨some 49, .bin .lss (.t 48) (.c (.int .i64 0)), none⟩, ⟨some 50, .callP 55 [(.c (.nil)), (.t 46), (.t 47), (.t 49), (.c (.bool false))], none⟩, ⟨some 44, .mv (.t 50), none⟩, ⟨some 51, .extract 0 (.t 44), none⟩, ⟨some 52, .extract 1 (.t 44), none⟩, ⟨some 8, .mv (.t 51), none⟩, ⟨some 9, .mv (.t 52), none⟩])
  (.seq (.ops false [⟨some 53, .mv (.t 9), none⟩, ⟨some 4, .mv (.t 53), none⟩])
  (.ret)))),
  [.t 4]⟩

/- (*strings.Builder).copyCheck -/
def d_strings_Builder_copyCheck : DFun := ⟨
  .seq (.ops false [⟨some 2, .mv (.t 0), none⟩, ⟨some 3, .nilck (.t 2), none⟩, ⟨some 4, .faddr 0 (.t 3), none⟩, ⟨some 5, .load none (.t 4), none⟩, ⟨some 6, .peq false (.t 5) (.c (.nilp)), none⟩])
  (.cond (.t 6) (.ops false [⟨some 7, .mv (.t 0), none⟩, ⟨some 8, .mv (.t 0), none⟩, ⟨some 9, .bad, none⟩, ⟨some 10, .callP 56 [(.t 9)], none⟩, ⟨some 11, .bad, none⟩, ⟨some 12, .nilck (.t 7), none⟩, ⟨some 13, .faddr 0 (.t 12), none⟩, ⟨none, .store 1 (.t 13) (.t 11), none⟩])
   (.seq (.ops false [⟨some 14, .mv (.t 0), none⟩, ⟨some 15, .nilck (.t 14), none⟩, ⟨some 16, .faddr 0 (.t 15), none⟩, ⟨some 17, .load none (.t 16), none⟩, ⟨some 18, .mv (.t 0), none⟩, ⟨some 19, .peq true (.t 17) (.t 18), none⟩])
   (.cond (.t 19) (.bad)
    (.skip)))),
  []⟩

/- (*strings.Builder).grow -/
def d_strings_Builder_grow : DFun := ⟨
  .seq (.opsP [(0, ⟨some 5, .mv (.t 0), none⟩), (1, ⟨some 6, .nilck (.t 5), none⟩), (2, ⟨some 7, .faddr 1 (.t 6), none⟩), (3, ⟨some 8, .load none (.t 7), none⟩), (6, ⟨some 11, .mv (.t 1), none⟩), (9, ⟨some 14, .mv (.t 0), none⟩), (10, ⟨some 15, .nilck (.t 14), none⟩), (11, ⟨some 16, .faddr 1 (.t 15), none⟩), (12, ⟨some 17, .load none (.t 16), none⟩), (13, ⟨some 18, .len (.t 17), none⟩), (4, ⟨some 9, .capn (.t 8), none⟩), (5, ⟨some 10, .bin .mul (.c (.int .i64 2)) (.t 9), none⟩), (7, ⟨some 12, .bin .add (.t 10) (.t 11), none⟩), (8, ⟨some 13, .callP 57 [(.t 12)], none⟩), (14, ⟨some 19, .slice 1 (.t 13) none (some (.t 18)) none, none⟩), (15, ⟨some 4, .mv (.t 19), none⟩)])
  (.seq (.ops false [⟨some 20, .mv (.t 4), none⟩, ⟨some 21, .mv (.t 0), none⟩, ⟨some 22, .nilck (.t 21), none⟩, ⟨some 23, .faddr 1 (.t 22), none⟩, ⟨some 24, .load none (.t 23), none⟩, ⟨some 25, .copy 1 (.t 20) (.t 24), none⟩])
  (.ops false [⟨some 26, .mv (.t 0), none⟩, ⟨some 27, .mv (.t 4), none⟩, ⟨some 28, .nilck (.t 26), none⟩, ⟨some 29, .faddr 1 (.t 28), none⟩, ⟨none, .store 1 (.t 29) (.t 27), none⟩])),
  []⟩

/- noria/noriaref04.in -/
def d_noriaref04_in : DFun := ⟨
  .seq (.ops false [⟨some 6, .mv (.c (.bool false)), none⟩])
  (.seq (.ops false [⟨some 7, .mv (.t 0), none⟩, ⟨some 8, .mv (.t 1), none⟩, ⟨some 9, .bin .geq (.t 7) (.t 8), none⟩, ⟨some 10, .mv (.t 9), none⟩, ⟨some 11, .mv (.t 0), some (10, true)⟩, ⟨some 12, .mv (.t 2), some (10, true)⟩, ⟨some 13, .bin .leq (.t 11) (.t 12), some (10, true)⟩, ⟨some 14, .pick (.t 10) (.t 13) (.c (.bool false)), none⟩, ⟨some 6, .mv (.t 14), none⟩])
  (.ret)),
  [.t 6]⟩

/- noria/noriaref04.Words -/
def d_noriaref04_Words : DFun := ⟨
  .seq (.ops false [⟨some 0, .mv (.c (.nil)), none⟩])
  (.seq (.ops false [⟨some 1, .bslice true [.str []] [(some (.c (.str [110, 111, 100, 101]))), (some (.c (.str [114, 101, 116, 117, 114, 110, 115]))), (some (.c (.str [118, 97, 114]))), (some (.c (.str [108, 101, 116]))), (some (.c (.str [116, 101, 108]))), (some (.c (.str [101, 110, 117, 109]))), (some (.c (.str [105, 102]))), (some (.c (.str [116, 104, 101, 110]))), (some (.c (.str [101, 108, 115, 101]))), (some (.c (.str [102, 98, 121]))), (some (.c (.str [112, 114, 101]))), (some (.c (.str [119, 104, 101, 110]))), (some (.c (.str [109, 101, 114, 103, 101]))), (some (.c (.str [101, 118, 101, 114, 121]))), (some (.c (.str [110, 111, 116]))), (some (.c (.str [97, 110, 100]))), (some (.c (.str [111, 114]))), (some (.c (.str [120, 111, 114]))), (some (.c (.str [109, 111, 100]))), (some (.c (.str [116, 114, 117, 101]))), (some (.c (.str [102, 97, 108, 115, 101]))), (some (.c (.str [105, 110, 116]))), (some (.c (.str [98, 111, 111, 108]))), (some (.c (.str [119, 105, 116, 104])))], none⟩, ⟨some 0, .mv (.t 1), none⟩])
  (.ret)),
  [.t 0]⟩

/- internal/strconv.small -/
def d_internal_strconv_small : DFun := ⟨
  .seq (.ops false [⟨some 2, .mv (.c (.str [])), none⟩])
  (.seq (.seq (.ops false [⟨some 3, .mv (.t 0), none⟩, ⟨some 4, .bin .lss (.t 3) (.c (.int .i64 10)), none⟩])
  (.cond (.t 4) (.seq (.ops false [⟨some 5, .mv (.t 0), none⟩, ⟨some 6, .mv (.t 0), none⟩, ⟨some 7, .bin .add (.t 6) (.c (.int .i64 1)), none⟩, ⟨some 8, .sliceS (.c (.str [48, 49, 50, 51, 52, 53, 54, 55, 56, 57, 97, 98, 99, 100, 101, 102, 103, 104, 105, 106, 107, 108, 109, 110, 111, 112, 113, 114, 115, 116, 117, 118, 119, 120, 121, 122])) (some (.t 5)) (some (.t 7)), none⟩, ⟨some 2, .mv (.t 8), none⟩])
   (.ret))
   (.skip)))
  (.seq (.ops false [⟨some 9, .mv (.t 0), none⟩, ⟨some 10, .bin .mul (.t 9) (.c (.int .i64 2)), none⟩, ⟨some 11, .mv (.t 0), none⟩, ⟨some 12, .bin .mul (.t 11) (.c (.int .i64 2)), none⟩, ⟨some 13, .bin .add (.t 12) (.c (.int .i64 2)), none⟩, ⟨some 14, .sliceS (.c (.str [48, 48, 48, 49, 48, 50, 48, 51, 48, 52, 48, 53, 48, 54, 48, 55, 48, 56, 48, 57, 49, 48, 49, 49, 49, 50, 49, 51, 49, 52, 49, 53, 49, 54, 49, 55, 49, 56, 49, 57, 50, 48, 50, 49, 50, 50, 50, 51, 50, 52, 50, 53, 50, 54, 50, 55, 50, 56, 50, 57, 51, 48, 51, 49, 51, 50, 51, 51, 51, 52, 51, 53, 51, 54, 51, 55, 51, 56, 51, 57, 52, 48, 52, 49, 52, 50, 52, 51, 52, 52, 52, 53, 52, 54, 52, 55, 52, 56, 52, 57, 53, 48, 53, 49, 53, 50, 53, 51, 53, 52, 53, 53, 53, 54, 53, 55, 53, 56, 53, 57, 54, 48, 54, 49, 54, 50, 54, 51, 54, 52, 54, 53, 54, 54, 54, 55, 54, 56, 54, 57, 55, 48, 55, 49, 55, 50, 55, 51, 55, 52, 55, 53, 55, 54, 55, 55, 55, 56, 55, 57, 56, 48, 56, 49, 56, 50, 56, 51, 56, 52, 56, 53, 56, 54, 56, 55, 56, 56, 56, 57, 57, 48, 57, 49, 57, 50, 57, 51, 57, 52, 57, 53, 57, 54, 57, 55, 57, 56, 57, 57])) (some (.t 10)) (some (.t 13)), none⟩, ⟨some 2, .mv (.t 14), none⟩])
  (.ret))),
  [.t 2]⟩

/- internal/strconv.numDigits -/
def d_internal_strconv_numDigits : DFun := ⟨
  .seq (.ops false [⟨some 2, .mv (.c (.int .i64 0)), none⟩])
  (.seq (.ops false [⟨some 4, .mv (.t 0), none⟩, ⟨some 5, .callP 59 [(.t 4)], none⟩, ⟨some 6, .callP 58 [(.t 5)], none⟩, ⟨some 3, .mv (.t 6), none⟩])
  (.seq (.ops false [⟨some 7, .mv (.t 3), none⟩, ⟨some 8, .mv (.t 0), none⟩, ⟨some 9, .mv (.t 3), none⟩, ⟨some 10, .bad, none⟩, ⟨some 11, .load none (.t 10), none⟩, ⟨some 12, .bin .geq (.t 8) (.t 11), none⟩, ⟨some 13, .callP 60 [(.t 12)], none⟩, ⟨some 14, .bin .add (.t 7) (.t 13), none⟩, ⟨some 2, .mv (.t 14), none⟩])
  (.ret))),
  [.t 2]⟩

/- internal/strconv.formatBase10 -/
def d_internal_strconv_formatBase10 : DFun := ⟨
  .seq (.ops false [⟨some 17, .mv (.t 0), none⟩, ⟨some 18, .len (.t 17), none⟩, ⟨some 4, .mv (.t 18), none⟩])
  (.seq (.block 0 (.loop [0, 1, 4] (some 0) (.seq (.seq (.ops false [⟨some 19, .mv (.t 4), none⟩, ⟨some 20, .bin .geq (.t 19) (.c (.int .i64 8)), none⟩])
    (.cond (.t 20) (.skip)
     (.exit 0)))
    (.block 1 (.seq (.ops false [⟨some 21, .mv (.t 1), none⟩, ⟨some 22, .bin .rem (.t 21) (.c (.int .u64 100000000)), none⟩, ⟨some 23, .conv .u32 (.t 22), none⟩, ⟨some 5, .mv (.t 23), none⟩])
     (.seq (.ops false [⟨some 24, .mv (.t 1), none⟩, ⟨some 25, .bin .quo (.t 24) (.c (.int .u64 100000000)), none⟩, ⟨some 1, .mv (.t 25), none⟩])
     (.seq (.ops false [⟨some 26, .mv (.t 5), none⟩, ⟨some 27, .bin .quo (.t 26) (.c (.int .u32 10000)), none⟩, ⟨some 28, .mv (.t 5), none⟩, ⟨some 29, .bin .rem (.t 28) (.c (.int .u32 10000)), none⟩, ⟨some 6, .mv (.t 27), none⟩, ⟨some 7, .mv (.t 29), none⟩])
     (.seq (.ops false [⟨some 30, .mv (.t 7), none⟩, ⟨some 31, .bin .quo (.t 30) (.c (.int .u32 100)), none⟩, ⟨some 32, .bin .mul (.t 31) (.c (.int .u32 2)), none⟩, ⟨some 33, .mv (.t 7), none⟩, ⟨some 34, .bin .rem (.t 33) (.c (.int .u32 100)), none⟩, ⟨some 35, .bin .mul (.t 34) (.c (.int .u32 2)), none⟩, ⟨some 8, .mv (.t 32), none⟩, ⟨some 9, .mv (.t 35), none⟩])
     (.seq (.ops false [⟨some 36, .mv (.t 6), none⟩, ⟨some 37, .bin .quo (.t 36) (.c (.int .u32 100)), none⟩, ⟨some 38, .bin .mul (.t 37) (.c (.int .u32 2)), none⟩, ⟨some 39, .mv (.t 6), none⟩, ⟨some 40, .bin .rem (.t 39) (.c (.int .u32 100)), none⟩, ⟨some 41, .bin .mul (.t 40) (.c (.int .u32 2)), none⟩, ⟨some 10, .mv (.t 38), none⟩, ⟨some 11, .mv (.t 41), none⟩])
     (.seq (.ops true [⟨some 42, .mv (.t 0), none⟩, ⟨some 43, .mv (.t 4), none⟩, ⟨some 44, .bin .sub (.t 43) (.c (.int .i64 1)), none⟩, ⟨some 45, .mv (.t 0), none⟩, ⟨some 46, .mv (.t 4), none⟩, ⟨some 47, .bin .sub (.t 46) (.c (.int .i64 2)), none⟩, ⟨some 48, .mv (.t 9), none⟩, ⟨some 49, .bin .add (.t 48) (.c (.int .u32 1)), none⟩, ⟨some 50, .index (.c (.str [48, 48, 48, 49, 48, 50, 48, 51, 48, 52, 48, 53, 48, 54, 48, 55, 48, 56, 48, 57, 49, 48, 49, 49, 49, 50, 49, 51, 49, 52, 49, 53, 49, 54, 49, 55, 49, 56, 49, 57, 50, 48, 50, 49, 50, 50, 50, 51, 50, 52, 50, 53, 50, 54, 50, 55, 50, 56, 50, 57, 51, 48, 51, 49, 51, 50, 51, 51, 51, 52, 51, 53, 51, 54, 51, 55, 51, 56, 51, 57, 52, 48, 52, 49, 52, 50, 52, 51, 52, 52, 52, 53, 52, 54, 52, 55, 52, 56, 52, 57, 53, 48, 53, 49, 53, 50, 53, 51, 53, 52, 53, 53, 53, 54, 53, 55, 53, 56, 53, 57, 54, 48, 54, 49, 54, 50, 54, 51, 54, 52, 54, 53, 54, 54, 54, 55, 54, 56, 54, 57, 55, 48, 55, 49, 55, 50, 55, 51, 55, 52, 55, 53, 55, 54, 55, 55, 55, 56, 55, 57, 56, 48, 56, 49, 56, 50, 56, 51, 56, 52, 56, 53, 56, 54, 56, 55, 56, 56, 56, 57, 57, 48, 57, 49, 57, 50, 57, 51, 57, 52, 57, 53, 57, 54, 57, 55, 57, 56, 57, 57])) (.t 49), none⟩, ⟨some 51, .mv (.t 9), none⟩, ⟨some 52, .index (.c (.str [48, 48, 48, 49, 48, 50, 48, 51, 48, 52, 48, 53, 48, 54, 48, 55, 48, 56, 48, 57, 49, 48, 49, 49, 49, 50, 49, 51, 49, 52, 49, 53, 49, 54, 49, 55, 49, 56, 49, 57, 50, 48, 50, 49, 50, 50, 50, 51, 50, 52, 50, 53, 50, 54, 50, 55, 50, 56, 50, 57, 51, 48, 51, 49, 51, 50, 51, 51, 51, 52, 51, 53, 51, 54, 51, 55, 51, 56, 51, 57, 52, 48, 52, 49, 52, 50, 52, 51, 52, 52, 52, 53, 52, 54, 52, 55, 52, 56, 52, 57, 53, 48, 53, 49, 53, 50, 53, 51, 53, 52, 53, 53, 53, 54, 53, 55, 53, 56, 53, 57, 54, 48, 54, 49, 54, 50, 54, 51, 54, 52, 54, 53, 54, 54, 54, 55, 54, 56, 54, 57, 55, 48, 55, 49, 55, 50, 55, 51, 55, 52, 55, 53, 55, 54, 55, 55, 55, 56, 55, 57, 56, 48, 56, 49, 56, 50, 56, 51, 56, 52, 56, 53, 56, 54, 56, 55, 56, 56, 56, 57, 57, 48, 57, 49, 57, 50, 57, 51, 57, 52, 57, 53, 57, 54, 57, 55, 57, 56, 57, 57])) (.t 51), none⟩, ⟨some 53, .iaddr 1 (.t 42) (.t 44), none⟩, ⟨none, .store 1 (.t 53) (.t 50), none⟩, ⟨some 54, .iaddr 1 (.t 45) (.t 47), none⟩, ⟨none, .store 1 (.t 54) (.t 52), none⟩])
     (.seq (.ops true [⟨some 55, .mv (.t 0), none⟩, ⟨some 56, .mv (.t 4), none⟩, ⟨some 57, .bin .sub (.t 56) (.c (.int .i64 3)), none⟩, ⟨some 58, .mv (.t 0), none⟩, ⟨some 59, .mv (.t 4), none⟩, ⟨some 60, .bin .sub (.t 59) (.c (.int .i64 4)), none⟩, ⟨some 61, .mv (.t 8), none⟩, ⟨some 62, .bin .add (.t 61) (.c (.int .u32 1)), none⟩, ⟨some 63, .index (.c (.str [48, 48, 48, 49, 48, 50, 48, 51, 48, 52, 48, 53, 48, 54, 48, 55, 48, 56, 48, 57, 49, 48, 49, 49, 49, 50, 49, 51, 49, 52, 49, 53, 49, 54, 49, 55, 49, 56, 49, 57, 50, 48, 50, 49, 50, 50, 50, 51, 50, 52, 50, 53, 50, 54, 50, 55, 50, 56, 50, 57, 51, 48, 51, 49, 51, 50, 51, 51, 51, 52, 51, 53, 51, 54, 51, 55, 51, 56, 51, 57, 52, 48, 52, 49, 52, 50, 52, 51, 52, 52, 52, 53, 52, 54, 52, 55, 52, 56, 52, 57, 53, 48, 53, 49, 53, 50, 53, 51, 53, 52, 53, 53, 53, 54, 53, 55, 53, 56, 53, 57, 54, 48, 54, 49, 54, 50, 54, 51, 54, 52, 54, 53, 54, 54, 54, 55, 54, 56, 54, 57, 55, 48, 55, 49, 55, 50, 55, 51, 55, 52, 55, 53, 55, 54, 55, 55, 55, 56, 55, 57, 56, 48, 56, 49, 56, 50, 56, 51, 56, 52, 56, 53, 56, 54, 56, 55, 56, 56, 56, 57, 57, 48, 57, 49, 57, 50, 57, 51, 57, 52, 57, 53, 57, 54, 57, 55, 57, 56, 57, 57])) (.t 62), none⟩, ⟨some 64, .mv (.t 8), none⟩, ⟨some 65, .index (.c (.str [48, 48, 48, 49, 48, 50, 48, 51, 48, 52, 48, 53, 48, 54, 48, 55, 48, 56, 48, 57, 49, 48, 49, 49, 49, 50, 49, 51, 49, 52, 49, 53, 49, 54, 49, 55, 49, 56, 49, 57, 50, 48, 50, 49, 50, 50, 50, 51, 50, 52, 50, 53, 50, 54, 50, 55, 50, 56, 50, 57, 51, 48, 51, 49, 51, 50, 51, 51, 51, 52, 51, 53, 51, 54, 51, 55, 51, 56, 51, 57, 52, 48, 52, 49, 52, 50, 52, 51, 52, 52, 52, 53, 52, 54, 52, 55, 52, 56, 52, 57, 53, 48, 53, 49, 53, 50, 53, 51, 53, 52, 53, 53, 53, 54, 53, 55, 53, 56, 53, 57, 54, 48, 54, 49, 54, 50, 54, 51, 54, 52, 54, 53, 54, 54, 54, 55, 54, 56, 54, 57, 55, 48, 55, 49, 55, 50, 55, 51, 55, 52, 55, 53, 55, 54, 55, 55, 55, 56, 55, 57, 56, 48, 56, 49, 56, 50, 56, 51, 56, 52, 56, 53, 56, 54, 56, 55, 56, 56, 56, 57, 57, 48, 57, 49, 57, 50, 57, 51, 57, 52, 57, 53, 57, 54, 57, 55, 57, 56, 57, 57])) (.t 64), none⟩, ⟨some 66, .iaddr 1 (.t 55) (.t 57), none⟩, ⟨none, .store 1 (.t 66) (.t 63), none⟩, ⟨some 67, .iaddr 1 (.t 58) (.t 60), none⟩, ⟨none, .store 1 (.t 67) (.t 65), none⟩])
     (.seq (.ops true [⟨some 68, .mv (.t 0), none⟩, ⟨some 69, .mv (.t 4), none⟩, ⟨some 70, .bin .sub (.t 69) (.c (.int .i64 5)), none⟩, ⟨some 71, .mv (.t 0), none⟩, ⟨some 72, .mv (.t 4), none⟩, ⟨some 73, .bin .sub (.t 72) (.c (.int .i64 6)), none⟩, ⟨some 74, .mv (.t 11), none⟩, ⟨some 75, .bin .add (.t 74) (.c (.int .u32 1)), none⟩, ⟨some 76, .index (.c (.str [48, 48, 48, 49, 48, 50, 48, 51, 48, 52, 48, 53, 48, 54, 48, 55, 48, 56, 48, 57, 49, 48, 49, 49, 49, 50, 49, 51, 49, 52, 49, 53, 49, 54, 49, 55, 49, 56, 49, 57, 50, 48, 50, 49, 50, 50, 50, 51, 50, 52, 50, 53, 50, 54, 50, 55, 50, 56, 50, 57, 51, 48, 51, 49, 51, 50, 51, 51, 51, 52, 51, 53, 51, 54, 51, 55, 51, 56, 51, 57, 52, 48, 52, 49, 52, 50, 52, 51, 52, 52, 52, 53, 52, 54, 52, 55, 52, 56, 52, 57, 53, 48, 53, 49, 53, 50, 53, 51, 53, 52, 53, 53, 53, 54, 53, 55, 53, 56, 53, 57, 54, 48, 54, 49, 54, 50, 54, 51, 54, 52, 54, 53, 54, 54, 54, 55, 54, 56, 54, 57, 55, 48, 55, 49, 55, 50, 55, 51, 55, 52, 55, 53, 55, 54, 55, 55, 55, 56, 55, 57, 56, 48, 56, 49, 56, 50, 56, 51, 56, 52, 56, 53, 56, 54, 56, 55, 56, 56, 56, 57, 57, 48, 57, 49, 57, 50, 57, 51, 57, 52, 57, 53, 57, 54, 57, 55, 57, 56, 57, 57])) (.t 75), none⟩, ⟨some 77, .mv (.t 11), none⟩, ⟨some 78, .index (.c (.str [48, 48, 48, 49, 48, 50, 48, 51, 48, 52, 48, 53, 48, 54, 48, 55, 48, 56, 48, 57, 49, 48, 49, 49, 49, 50, 49, 51, 49, 52, 49, 53, 49, 54, 49, 55, 49, 56, 49, 57, 50, 48, 50, 49, 50, 50, 50, 51, 50, 52, 50, 53, 50, 54, 50, 55, 50, 56, 50, 57, 51, 48, 51, 49, 51, 50, 51, 51, 51, 52, 51, 53, 51, 54, 51, 55, 51, 56, 51, 57, 52, 48, 52, 49, 52, 50, 52, 51, 52, 52, 52, 53, 52, 54, 52, 55, 52, 56, 52, 57, 53, 48, 53, 49, 53, 50, 53, 51, 53, 52, 53, 53, 53, 54, 53, 55, 53, 56, 53, 57, 54, 48, 54, 49, 54, 50, 54, 51, 54, 52, 54, 53, 54, 54, 54, 55, 54, 56, 54, 57, 55, 48, 55, 49, 55, 50, 55, 51, 55, 52, 55, 53, 55, 54, 55, 55, 55, 56, 55, 57, 56, 48, 56, 49, 56, 50, 56, 51, 56, 52, 56, 53, 56, 54, 56, 55, 56, 56, 56, 57, 57, 48, 57, 49, 57, 50, 57, 51, 57, 52, 57, 53, 57, 54, 57, 55, 57, 56, 57, 57])) (.t 77), none⟩, ⟨some 79, .iaddr 1 (.t 68) (.t 70), none⟩, ⟨none, .store 1 (.t 79) (.t 76), none⟩, ⟨some 80, .iaddr 1 (.t 71) (.t 73), none⟩, ⟨none, .store 1 (.t 80) (.t 78), none⟩])
     (.seq (.ops true [⟨some 81, .mv (.t 0), none⟩, ⟨some 82, .mv (.t 4), none⟩, ⟨some 83, .bin .sub (.t 82) (.c (.int .i64 7)), none⟩, ⟨some 84, .mv (.t 0), none⟩, ⟨some 85, .mv (.t 4), none⟩, ⟨some 86, .bin .sub (.t 85) (.c (.int .i64 8)), none⟩, ⟨some 87, .mv (.t 10), none⟩, ⟨some 88, .bin .add (.t 87) (.c (.int .u32 1)), none⟩, ⟨some 89, .index (.c (.str [48, 48, 48, 49, 48, 50, 48, 51, 48, 52, 48, 53, 48, 54, 48, 55, 48, 56, 48, 57, 49, 48, 49, 49, 49, 50, 49, 51, 49, 52, 49, 53, 49, 54, 49, 55, 49, 56, 49, 57, 50, 48, 50, 49, 50, 50, 50, 51, 50, 52, 50, 53, 50, 54, 50, 55, 50, 56, 50, 57, 51, 48, 51, 49, 51, 50, 51, 51, 51, 52, 51, 53, 51, 54, 51, 55, 51, 56, 51, 57, 52, 48, 52, 49, 52, 50, 52, 51, 52, 52, 52, 53, 52, 54, 52, 55, 52, 56, 52, 57, 53, 48, 53, 49, 53, 50, 53, 51, 53, 52, 53, 53, 53, 54, 53, 55, 53, 56, 53, 57, 54, 48, 54, 49, 54, 50, 54, 51, 54, 52, 54, 53, 54, 54, 54, 55, 54, 56, 54, 57, 55, 48, 55, 49, 55, 50, 55, 51, 55, 52, 55, 53, 55, 54, 55, 55, 55, 56, 55, 57, 56, 48, 56, 49, 56, 50, 56, 51, 56, 52, 56, 53, 56, 54, 56, 55, 56, 56, 56, 57, 57, 48, 57, 49, 57, 50, 57, 51, 57, 52, 57, 53, 57, 54, 57, 55, 57, 56, 57, 57])) (.t 88), none⟩, ⟨some 90, .mv (.t 10), none⟩, ⟨some 91, .index (.c (.str [48, 48, 48, 49, 48, 50, 48, 51, 48, 52, 48, 53, 48, 54, 48, 55, 48, 56, 48, 57, 49, 48, 49, 49, 49, 50, 49, 51, 49, 52, 49, 53, 49, 54, 49, 55, 49, 56, 49, 57, 50, 48, 50, 49, 50, 50, 50, 51, 50, 52, 50, 53, 50, 54, 50, 55, 50, 56, 50, 57, 51, 48, 51, 49, 51, 50, 51, 51, 51, 52, 51, 53, 51, 54, 51, 55, 51, 56, 51, 57, 52, 48, 52, 49, 52, 50, 52, 51, 52, 52, 52, 53, 52, 54, 52, 55, 52, 56, 52, 57, 53, 48, 53, 49, 53, 50, 53, 51, 53, 52, 53, 53, 53, 54, 53, 55, 53, 56, 53, 57, 54, 48, 54, 49, 54, 50, 54, 51, 54, 52, 54, 53, 54, 54, 54, 55, 54, 56, 54, 57, 55, 48, 55, 49, 55, 50, 55, 51, 55, 52, 55, 53, 55, 54, 55, 55, 55, 56, 55, 57, 56, 48, 56, 49, 56, 50, 56, 51, 56, 52, 56, 53, 56, 54, 56, 55, 56, 56, 56, 57, 57, 48, 57, 49, 57, 50, 57, 51, 57, 52, 57, 53, 57, 54, 57, 55, 57, 56, 57, 57])) (.t 90), none⟩, ⟨some 92, .iaddr 1 (.t 81) (.t 83), none⟩, ⟨none, .store 1 (.t 92) (.t 89), none⟩, ⟨some 93, .iaddr 1 (.t 84) (.t 86), none⟩, ⟨none, .store 1 (.t 93) (.t 91), none⟩])
     (.ops false [⟨some 94, .mv (.t 4), none⟩, ⟨some 95, .bin .sub (.t 94) (.c (.int .i64 8)), none⟩, ⟨some 4, .mv (.t 95), none⟩]))))))))))))))
  (.seq (.ops false [⟨some 96, .mv (.t 1), none⟩, ⟨some 97, .conv .u32 (.t 96), none⟩, ⟨some 12, .mv (.t 97), none⟩])
  (.seq (.seq (.ops false [⟨some 98, .mv (.t 4), none⟩, ⟨some 99, .bin .geq (.t 98) (.c (.int .i64 4)), none⟩])
  (.cond (.t 99) (.seq (.ops false [⟨some 100, .mv (.t 12), none⟩, ⟨some 101, .bin .rem (.t 100) (.c (.int .u32 10000)), none⟩, ⟨some 13, .mv (.t 101), none⟩])
   (.seq (.ops false [⟨some 102, .mv (.t 12), none⟩, ⟨some 103, .bin .quo (.t 102) (.c (.int .u32 10000)), none⟩, ⟨some 12, .mv (.t 103), none⟩])
   (.seq (.ops false [⟨some 104, .mv (.t 13), none⟩, ⟨some 105, .bin .quo (.t 104) (.c (.int .u32 100)), none⟩, ⟨some 106, .bin .mul (.t 105) (.c (.int .u32 2)), none⟩, ⟨some 107, .mv (.t 13), none⟩, ⟨some 108, .bin .rem (.t 107) (.c (.int .u32 100)), none⟩, ⟨some 109, .bin .mul (.t 108) (.c (.int .u32 2)), none⟩, ⟨some 14, .mv (.t 106), none⟩, ⟨some 15, .mv (.t 109), none⟩])
   (.seq (.ops true [⟨some 110, .mv (.t 0), none⟩, ⟨some 111, .mv (.t 4), none⟩, ⟨some 112, .bin .sub (.t 111) (.c (.int .i64 1)), none⟩, ⟨some 113, .mv (.t 0), none⟩, ⟨some 114, .mv (.t 4), none⟩, ⟨some 115, .bin .sub (.t 114) (.c (.int .i64 2)), none⟩, ⟨some 116, .mv (.t 15), none⟩, ⟨some 117, .bin .add (.t 116) (.c (.int .u32 1)), none⟩, ⟨some 118, .index (.c (.str [48, 48, 48, 49, 48, 50, 48, 51, 48, 52, 48, 53, 48, 54, 48, 55, 48, 56, 48, 57, 49, 48, 49, 49, 49, 50, 49, 51, 49, 52, 49, 53, 49, 54, 49, 55, 49, 56, 49, 57, 50, 48, 50, 49, 50, 50, 50, 51, 50, 52, 50, 53, 50, 54, 50, 55, 50, 56, 50, 57, 51, 48, 51, 49, 51, 50, 51, 51, 51, 52, 51, 53, 51, 54, 51, 55, 51, 56, 51, 57, 52, 48, 52, 49, 52, 50, 52, 51, 52, 52, 52, 53, 52, 54, 52, 55, 52, 56, 52, 57, 53, 48, 53, 49, 53, 50, 53, 51, 53, 52, 53, 53, 53, 54, 53, 55, 53, 56, 53, 57, 54, 48, 54, 49, 54, 50, 54, 51, 54, 52, 54, 53, 54, 54, 54, 55, 54, 56, 54, 57, 55, 48, 55, 49, 55, 50, 55, 51, 55, 52, 55, 53, 55, 54, 55, 55, 55, 56, 55, 57, 56, 48, 56, 49, 56, 50, 56, 51, 56, 52, 56, 53, 56, 54, 56, 55, 56, 56, 56, 57, 57, 48, 57, 49, 57, 50, 57, 51, 57, 52, 57, 53, 57, 54, 57, 55, 57, 56, 57, 57])) (.t 117), none⟩, ⟨some 119, .mv (.t 15), none⟩, ⟨some 120, .index (.c (.str [48, 48, 48, 49, 48, 50, 48, 51, 48, 52, 48, 53, 48, 54, 48, 55, 48, 56, 48, 57, 49, 48, 49, 49, 49, 50, 49, 51, 49, 52, 49, 53, 49, 54, 49, 55, 49, 56, 49, 57, 50, 48, 50, 49, 50, 50, 50, 51, 50, 52, 50, 53, 50, 54, 50, 55, 50, 56, 50, 57, 51, 48, 51, 49, 51, 50, 51, 51, 51, 52, 51, 53, 51, 54, 51, 55, 51, 56, 51, 57, 52, 48, 52, 49, 52, 50, 52, 51, 52, 52, 52, 53, 52, 54, 52, 55, 52, 56, 52, 57, 53, 48, 53, 49, 53, 50, 53, 51, 53, 52, 53, 53, 53, 54, 53, 55, 53, 56, 53, 57, 54, 48, 54, 49, 54, 50, 54, 51, 54, 52, 54, 53, 54, 54, 54, 55, 54, 56, 54, 57, 55, 48, 55, 49, 55, 50, 55, 51, 55, 52, 55, 53, 55, 54, 55, 55, 55, 56, 55, 57, 56, 48, 56, 49, 56, 50, 56, 51, 56, 52, 56, 53, 56, 54, 56, 55, 56, 56, 56, 57, 57, 48, 57, 49, 57, 50, 57, 51, 57, 52, 57, 53, 57, 54, 57, 55, 57, 56, 57, 57])) (.t 119), none⟩, ⟨some 121, .iaddr 1 (.t 110) (.t 112), none⟩, ⟨none, .store 1 (.t 121) (.t 118), none⟩, ⟨some 122, .iaddr 1 (.t 113) (.t 115), none⟩, ⟨none, .store 1 (.t 122) (.t 120), none⟩])
   (.seq (.ops true [⟨some 123, .mv (.t 0), none⟩, ⟨some 124, .mv (.t 4), none⟩, ⟨some 125, .bin .sub (.t 124) (.c (.int .i64 3)), none⟩, ⟨some 126, .mv (.t 0), none⟩, ⟨some 127, .mv (.t 4), none⟩, ⟨some 128, .bin .sub (.t 127) (.c (.int .i64 4)), none⟩, ⟨some 129, .mv (.t 14), none⟩, ⟨some 130, .bin .add (.t 129) (.c (.int .u32 1)), none⟩, ⟨some 131, .index (.c (.str [48, 48, 48, 49, 48, 50, 48, 51, 48, 52, 48, 53, 48, 54, 48, 55, 48, 56, 48, 57, 49, 48, 49, 49, 49, 50, 49, 51, 49, 52, 49, 53, 49, 54, 49, 55, 49, 56, 49, 57, 50, 48, 50, 49, 50, 50, 50, 51, 50, 52, 50, 53, 50, 54, 50, 55, 50, 56, 50, 57, 51, 48, 51, 49, 51, 50, 51, 51, 51, 52, 51, 53, 51, 54, 51, 55, 51, 56, 51, 57, 52, 48, 52, 49, 52, 50, 52, 51, 52, 52, 52, 53, 52, 54, 52, 55, 52, 56, 52, 57, 53, 48, 53, 49, 53, 50, 53, 51, 53, 52, 53, 53, 53, 54, 53, 55, 53, 56, 53, 57, 54, 48, 54, 49, 54, 50, 54, 51, 54, 52, 54, 53, 54, 54, 54, 55, 54, 56, 54, 57, 55, 48, 55, 49, 55, 50, 55, 51, 55, 52, 55, 53, 55, 54, 55, 55, 55, 56, 55, 57, 56, 48, 56, 49, 56, 50, 56, 51, 56, 52, 56, 53, 56, 54, 56, 55, 56, 56, 56, 57, 57, 48, 57, 49, 57, 50, 57, 51, 57, 52, 57, 53, 57, 54, 57, 55, 57, 56, 57, 57])) (.t 130), none⟩, ⟨some 132, .mv (.t 14), none⟩, ⟨some 133, .index (.c (.str [48, 48, 48, 49, 48, 50, 48, 51, 48, 52, 48, 53, 48, 54, 48, 55, 48, 56, 48, 57, 49, 48, 49, 49, 49, 50, 49, 51, 49, 52, 49, 53, 49, 54, 49, 55, 49, 56, 49, 57, 50, 48, 50, 49, 50, 50, 50, 51, 50, 52, 50, 53, 50, 54, 50, 55, 50, 56, 50, 57, 51, 48, 51, 49, 51, 50, 51, 51, 51, 52, 51, 53, 51, 54, 51, 55, 51, 56, 51, 57, 52, 48, 52, 49, 52, 50, 52, 51, 52, 52, 52, 53, 52, 54, 52, 55, 52, 56, 52, 57, 53, 48, 53, 49, 53, 50, 53, 51, 53, 52, 53, 53, 53, 54, 53, 55, 53, 56, 53, 57, 54, 48, 54, 49, 54, 50, 54, 51, 54, 52, 54, 53, 54, 54, 54, 55, 54, 56, 54, 57, 55, 48, 55, 49, 55, 50, 55, 51, 55, 52, 55, 53, 55, 54, 55, 55, 55, 56, 55, 57, 56, 48, 56, 49, 56, 50, 56, 51, 56, 52, 56, 53, 56, 54, 56, 55, 56, 56, 56, 57, 57, 48, 57, 49, 57, 50, 57, 51, 57, 52, 57, 53, 57, 54, 57, 55, 57, 56, 57, 57])) (.t 132), none⟩, ⟨some 134, .iaddr 1 (.t 123) (.t 125), none⟩, ⟨none, .store 1 (.t 134) (.t 131), none⟩, ⟨some 135, .iaddr 1 (.t 126) (.t 128), none⟩, ⟨none, .store 1 (.t 135) (.t 133), none⟩])
   (.ops false [⟨some 136, .mv (.t 4), none⟩, ⟨some 137, .bin .sub (.t 136) (.c (.int .i64 4)), none⟩, ⟨some 4, .mv (.t 137), none⟩]))))))
   (.skip)))
  (.seq (.seq (.ops false [⟨some 138, .mv (.t 4), none⟩, ⟨some 139, .bin .geq (.t 138) (.c (.int .i64 2)), none⟩])
  (.cond (.t 139) (.seq (.ops false [⟨some 140, .mv (.t 12), none⟩, ⟨some 141, .bin .rem (.t 140) (.c (.int .u32 100)), none⟩, ⟨some 142, .bin .mul (.t 141) (.c (.int .u32 2)), none⟩, ⟨some 16, .mv (.t 142), none⟩])
   (.seq (.ops false [⟨some 143, .mv (.t 12), none⟩, ⟨some 144, .bin .quo (.t 143) (.c (.int .u32 100)), none⟩, ⟨some 12, .mv (.t 144), none⟩])
   (.seq (.ops true [⟨some 145, .mv (.t 0), none⟩, ⟨some 146, .mv (.t 4), none⟩, ⟨some 147, .bin .sub (.t 146) (.c (.int .i64 1)), none⟩, ⟨some 148, .mv (.t 0), none⟩, ⟨some 149, .mv (.t 4), none⟩, ⟨some 150, .bin .sub (.t 149) (.c (.int .i64 2)), none⟩, ⟨some 151, .mv (.t 16), none⟩, ⟨some 152, .bin .add (.t 151) (.c (.int .u32 1)), none⟩, ⟨some 153, .index (.c (.str [48, 48, 48, 49, 48, 50, 48, 51, 48, 52, 48, 53, 48, 54, 48, 55, 48, 56, 48, 57, 49, 48, 49, 49, 49, 50, 49, 51, 49, 52, 49, 53, 49, 54, 49, 55, 49, 56, 49, 57, 50, 48, 50, 49, 50, 50, 50, 51, 50, 52, 50, 53, 50, 54, 50, 55, 50, 56, 50, 57, 51, 48, 51, 49, 51, 50, 51, 51, 51, 52, 51, 53, 51, 54, 51, 55, 51, 56, 51, 57, 52, 48, 52, 49, 52, 50, 52, 51, 52, 52, 52, 53, 52, 54, 52, 55, 52, 56, 52, 57, 53, 48, 53, 49, 53, 50, 53, 51, 53, 52, 53, 53, 53, 54, 53, 55, 53, 56, 53, 57, 54, 48, 54, 49, 54, 50, 54, 51, 54, 52, 54, 53, 54, 54, 54, 55, 54, 56, 54, 57, 55, 48, 55, 49, 55, 50, 55, 51, 55, 52, 55, 53, 55, 54, 55, 55, 55, 56, 55, 57, 56, 48, 56, 49, 56, 50, 56, 51, 56, 52, 56, 53, 56, 54, 56, 55, 56, 56, 56, 57, 57, 48, 57, 49, 57, 50, 57, 51, 57, 52, 57, 53, 57, 54, 57, 55, 57, 56, 57, 57])) (.t 152), none⟩, ⟨some 154, .mv (.t 16), none⟩, ⟨some 155, .index (.c (.str [48, 48, 48, 49, 48, 50, 48, 51, 48, 52, 48, 53, 48, 54, 48, 55, 48, 56, 48, 57, 49, 48, 49, 49, 49, 50, 49, 51, 49, 52, 49, 53, 49, 54, 49, 55, 49, 56, 49, 57, 50, 48, 50, 49, 50, 50, 50, 51, 50, 52, 50, 53, 50, 54, 50, 55, 50, 56, 50, 57, 51, 48, 51, 49, 51, 50, 51, 51, 51, 52, 51, 53, 51, 54, 51, 55, 51, 56, 51, 57, 52, 48, 52, 49, 52, 50, 52, 51, 52, 52, 52, 53, 52, 54, 52, 55, 52, 56, 52, 57, 53, 48, 53, 49, 53, 50, 53, 51, 53, 52, 53, 53, 53, 54, 53, 55, 53, 56, 53, 57, 54, 48, 54, 49, 54, 50, 54, 51, 54, 52, 54, 53, 54, 54, 54, 55, 54, 56, 54, 57, 55, 48, 55, 49, 55, 50, 55, 51, 55, 52, 55, 53, 55, 54, 55, 55, 55, 56, 55, 57, 56, 48, 56, 49, 56, 50, 56, 51, 56, 52, 56, 53, 56, 54, 56, 55, 56, 56, 56, 57, 57, 48, 57, 49, 57, 50, 57, 51, 57, 52, 57, 53, 57, 54, 57, 55, 57, 56, 57, 57])) (.t 154), none⟩, ⟨some 156, .iaddr 1 (.t 145) (.t 147), none⟩, ⟨none, .store 1 (.t 156) (.t 153), none⟩, ⟨some 157, .iaddr 1 (.t 148) (.t 150), none⟩, ⟨none, .store 1 (.t 157) (.t 155), none⟩])
   (.ops false [⟨some 158, .mv (.t 4), none⟩, ⟨some 159, .bin .sub (.t 158) (.c (.int .i64 2)), none⟩, ⟨some 4, .mv (.t 159), none⟩]))))
   (.skip)))
  (.seq (.ops false [⟨some 160, .mv (.t 4), none⟩, ⟨some 161, .bin .gtr (.t 160) (.c (.int .i64 0)), none⟩])
  (.cond (.t 161) (.ops false [⟨some 162, .mv (.t 0), none⟩, ⟨some 163, .mv (.t 12), none⟩, ⟨some 164, .bin .add (.c (.int .u32 48)) (.t 163), none⟩, ⟨some 165, .conv .u8 (.t 164), none⟩, ⟨some 166, .iaddr 1 (.t 162) (.c (.int .i64 0)), none⟩, ⟨none, .store 1 (.t 166) (.t 165), none⟩])
   (.skip))))))),
  []⟩

/- internal/strconv.formatBits -/
def d_internal_strconv_formatBits : DFun := ⟨
  .seq (.ops false [⟨some 10, .mv (.c (.nil)), none⟩, ⟨some 11, .mv (.c (.str [])), none⟩])
  (.seq (.seq (.ops false [⟨some 19, .mv (.t 2), none⟩, ⟨some 20, .bin .lss (.t 19) (.c (.int .i64 2)), none⟩, ⟨some 21, .mv (.t 20), none⟩, ⟨some 22, .mv (.t 2), some (21, false)⟩, ⟨some 23, .bin .eql (.t 22) (.c (.int .i64 10)), some (21, false)⟩, ⟨some 24, .pick (.t 21) (.c (.bool true)) (.t 23), none⟩, ⟨some 25, .mv (.t 24), none⟩, ⟨some 26, .mv (.t 2), some (25, false)⟩, ⟨some 27, .bin .gtr (.t 26) (.c (.int .i64 36)), some (25, false)⟩, ⟨some 28, .pick (.t 25) (.c (.bool true)) (.t 27), none⟩])
  (.cond (.t 28) (.ops false [⟨some 29, .bad, none⟩, ⟨none, .bad, none⟩])
   (.skip)))
  (.seq (.ops false [⟨some 12, .alloc [.int .u8 0, .int .u8 0, .int .u8 0, .int .u8 0, .int .u8 0, .int .u8 0, .int .u8 0, .int .u8 0, .int .u8 0, .int .u8 0, .int .u8 0, .int .u8 0, .int .u8 0, .int .u8 0, .int .u8 0, .int .u8 0, .int .u8 0, .int .u8 0, .int .u8 0, .int .u8 0, .int .u8 0, .int .u8 0, .int .u8 0, .int .u8 0, .int .u8 0, .int .u8 0, .int .u8 0, .int .u8 0, .int .u8 0, .int .u8 0, .int .u8 0, .int .u8 0, .int .u8 0, .int .u8 0, .int .u8 0, .int .u8 0, .int .u8 0, .int .u8 0, .int .u8 0, .int .u8 0, .int .u8 0, .int .u8 0, .int .u8 0, .int .u8 0, .int .u8 0, .int .u8 0, .int .u8 0, .int .u8 0, .int .u8 0, .int .u8 0, .int .u8 0, .int .u8 0, .int .u8 0, .int .u8 0, .int .u8 0, .int .u8 0, .int .u8 0, .int .u8 0, .int .u8 0, .int .u8 0, .int .u8 0, .int .u8 0, .int .u8 0, .int .u8 0, .int .u8 0], none⟩])
  (.seq (.ops false [⟨some 13, .mv (.c (.int .i64 65)), none⟩])
  (.seq (.seq (.ops false [⟨some 30, .mv (.t 3), none⟩])
  (.cond (.t 30) (.ops false [⟨some 31, .mv (.t 1), none⟩, ⟨some 32, .un .neg (.t 31), none⟩, ⟨some 1, .mv (.t 32), none⟩])
   (.skip)))
  (.seq (.seq (.ops false [⟨some 33, .mv (.t 2), none⟩, ⟨some 34, .callP 61 [(.t 33)], none⟩])
  (.cond (.t 34) (.seq (.ops false [⟨some 35, .mv (.t 2), none⟩, ⟨some 36, .conv .u64 (.t 35), none⟩, ⟨some 37, .callP 62 [(.t 36)], none⟩, ⟨some 38, .conv .u64 (.t 37), none⟩, ⟨some 14, .mv (.t 38), none⟩])
   (.seq (.ops false [⟨some 39, .mv (.t 2), none⟩, ⟨some 40, .conv .u64 (.t 39), none⟩, ⟨some 15, .mv (.t 40), none⟩])
   (.seq (.ops false [⟨some 41, .mv (.t 2), none⟩, ⟨some 42, .conv .u64 (.t 41), none⟩, ⟨some 43, .bin .sub (.t 42) (.c (.int .u64 1)), none⟩, ⟨some 16, .mv (.t 43), none⟩])
   (.seq (.block 0 (.loop [0, 1, 3, 4, 10, 11, 12, 13, 14, 15, 16] (some 1) (.seq (.seq (.ops false [⟨some 44, .mv (.t 1), none⟩, ⟨some 45, .mv (.t 15), none⟩, ⟨some 46, .bin .geq (.t 44) (.t 45), none⟩])
     (.cond (.t 46) (.skip)
      (.exit 0)))
     (.block 1 (.seq (.ops false [⟨some 47, .mv (.t 13), none⟩, ⟨some 48, .bin .sub (.t 47) (.c (.int .i64 1)), none⟩, ⟨some 13, .mv (.t 48), none⟩])
      (.seq (.ops false [⟨some 49, .mv (.t 13), none⟩, ⟨some 50, .mv (.t 1), none⟩, ⟨some 51, .mv (.t 16), none⟩, ⟨some 52, .bin .and (.t 50) (.t 51), none⟩, ⟨some 53, .index (.c (.str [48, 49, 50, 51, 52, 53, 54, 55, 56, 57, 97, 98, 99, 100, 101, 102, 103, 104, 105, 106, 107, 108, 109, 110, 111, 112, 113, 114, 115, 116, 117, 118, 119, 120, 121, 122])) (.t 52), none⟩, ⟨some 54, .iaddrA 65 1 (.t 12) (.t 49), none⟩, ⟨none, .store 1 (.t 54) (.t 53), none⟩])
      (.ops false [⟨some 55, .mv (.t 1), none⟩, ⟨some 56, .mv (.t 14), none⟩, ⟨some 57, .bin .shr (.t 55) (.t 56), none⟩, ⟨some 1, .mv (.t 57), none⟩])))))))
   (.seq (.ops false [⟨some 58, .mv (.t 13), none⟩, ⟨some 59, .bin .sub (.t 58) (.c (.int .i64 1)), none⟩, ⟨some 13, .mv (.t 59), none⟩])
   (.ops false [⟨some 60, .mv (.t 13), none⟩, ⟨some 61, .mv (.t 1), none⟩, ⟨some 62, .index (.c (.str [48, 49, 50, 51, 52, 53, 54, 55, 56, 57, 97, 98, 99, 100, 101, 102, 103, 104, 105, 106, 107, 108, 109, 110, 111, 112, 113, 114, 115, 116, 117, 118, 119, 120, 121, 122])) (.t 61), none⟩, ⟨some 63, .iaddrA 65 1 (.t 12) (.t 60), none⟩, ⟨none, .store 1 (.t 63) (.t 62), none⟩]))))))
   (.seq (.ops false [⟨some 64, .mv (.t 2), none⟩, ⟨some 65, .conv .u64 (.t 64), none⟩, ⟨some 17, .mv (.t 65), none⟩])
   (.seq (.block 2 (.loop [0, 1, 3, 4, 10, 11, 12, 13, 17] (some 1) (.seq (.seq (.ops false [⟨some 66, .mv (.t 1), none⟩, ⟨some 67, .mv (.t 17), none⟩, ⟨some 68, .bin .geq (.t 66) (.t 67), none⟩])
     (.cond (.t 68) (.skip)
      (.exit 2)))
     (.block 3 (.seq (.ops false [⟨some 69, .mv (.t 13), none⟩, ⟨some 70, .bin .sub (.t 69) (.c (.int .i64 1)), none⟩, ⟨some 13, .mv (.t 70), none⟩])
      (.seq (.ops false [⟨some 71, .mv (.t 1), none⟩, ⟨some 72, .mv (.t 17), none⟩, ⟨some 73, .bin .quo (.t 71) (.t 72), none⟩, ⟨some 18, .mv (.t 73), none⟩])
      (.seq (.ops false [⟨some 74, .mv (.t 13), none⟩, ⟨some 75, .mv (.t 1), none⟩, ⟨some 76, .mv (.t 18), none⟩, ⟨some 77, .mv (.t 17), none⟩, ⟨some 78, .bin .mul (.t 76) (.t 77), none⟩, ⟨some 79, .bin .sub (.t 75) (.t 78), none⟩, ⟨some 80, .index (.c (.str [48, 49, 50, 51, 52, 53, 54, 55, 56, 57, 97, 98, 99, 100, 101, 102, 103, 104, 105, 106, 107, 108, 109, 110, 111, 112, 113, 114, 115, 116, 117, 118, 119, 120, 121, 122])) (.t 79), none⟩, ⟨some 81, .iaddrA 65 1 (.t 12) (.t 74), none⟩, ⟨none, .store 1 (.t 81) (.t 80), none⟩])
      (.ops false [⟨some 82, .mv (.t 18), none⟩, ⟨some 1, .mv (.t 82), none⟩]))))))))
   (.seq (.ops false [⟨some 83, .mv (.t 13), none⟩, ⟨some 84, .bin .sub (.t 83) (.c (.int .i64 1)), none⟩, ⟨some 13, .mv (.t 84), none⟩])
   (.ops false [⟨some 85, .mv (.t 13), none⟩, ⟨some 86, .mv (.t 1), none⟩, ⟨some 87, .index (.c (.str [48, 49, 50, 51, 52, 53, 54, 55, 56, 57, 97, 98, 99, 100, 101, 102, 103, 104, 105, 106, 107, 108, 109, 110, 111, 112, 113, 114, 115, 116, 117, 118, 119, 120, 121, 122])) (.t 86), none⟩, ⟨some 88, .iaddrA 65 1 (.t 12) (.t 85), none⟩, ⟨none, .store 1 (.t 88) (.t 87), none⟩]))))))
  (.seq (.seq (.ops false [⟨some 89, .mv (.t 3), none⟩])
  (.cond (.t 89) (.seq (.ops false [⟨some 90, .mv (.t 13), none⟩, ⟨some 91, .bin .sub (.t 90) (.c (.int .i64 1)), none⟩, ⟨some 13, .mv (.t 91), none⟩])
   (.ops false [⟨some 92, .mv (.t 13), none⟩, ⟨some 93, .iaddrA 65 1 (.t 12) (.t 92), none⟩, ⟨none, .store 1 (.t 93) (.c (.int .u8 45)), none⟩]))
   (.skip)))
  (.seq (.seq (.ops false [⟨some 94, .mv (.t 4), none⟩])
  (.cond (.t 94) (.seq (.ops false [⟨some 95, .mv (.t 0), none⟩, ⟨some 96, .mv (.t 13), none⟩, ⟨some 97, .bad, none⟩, ⟨some 98, .append 1 (.t 95) (.t 97), none⟩, ⟨some 10, .mv (.t 98), none⟩])
   (.ret))
   (.skip)))
  (.seq (.ops false [⟨some 99, .mv (.t 13), none⟩, ⟨some 100, .bad, none⟩, ⟨some 101, .b2s (.t 100), none⟩, ⟨some 11, .mv (.t 101), none⟩])
  (.ret))))))))),
  [.t 10, .t 11]⟩

/- internal/strconv.log10Pow2 -/
def d_internal_strconv_log10Pow2 : DFun := ⟨
  .seq (.ops false [⟨some 2, .mv (.c (.int .i64 0)), none⟩])
  (.seq (.ops false [⟨some 3, .mv (.t 0), none⟩, ⟨some 4, .bin .mul (.t 3) (.c (.int .i64 78913)), none⟩, ⟨some 5, .bin .shr (.t 4) (.c (.int .u64 18)), none⟩, ⟨some 2, .mv (.t 5), none⟩])
  (.ret)),
  [.t 2]⟩

/- math/bits.Len64 -/
def d_math_bits_Len64 : DFun := ⟨
  .seq (.ops false [⟨some 2, .mv (.c (.int .i64 0)), none⟩])
  (.seq (.seq (.ops false [⟨some 3, .mv (.t 0), none⟩, ⟨some 4, .bin .geq (.t 3) (.c (.int .u64 4294967296)), none⟩])
  (.cond (.t 4) (.seq (.ops false [⟨some 5, .mv (.t 0), none⟩, ⟨some 6, .bin .shr (.t 5) (.c (.int .u64 32)), none⟩, ⟨some 0, .mv (.t 6), none⟩])
   (.ops false [⟨some 2, .mv (.c (.int .i64 32)), none⟩]))
   (.skip)))
  (.seq (.seq (.ops false [⟨some 7, .mv (.t 0), none⟩, ⟨some 8, .bin .geq (.t 7) (.c (.int .u64 65536)), none⟩])
  (.cond (.t 8) (.seq (.ops false [⟨some 9, .mv (.t 0), none⟩, ⟨some 10, .bin .shr (.t 9) (.c (.int .u64 16)), none⟩, ⟨some 0, .mv (.t 10), none⟩])
   (.ops false [⟨some 11, .mv (.t 2), none⟩, ⟨some 12, .bin .add (.t 11) (.c (.int .i64 16)), none⟩, ⟨some 2, .mv (.t 12), none⟩]))
   (.skip)))
  (.seq (.seq (.ops false [⟨some 13, .mv (.t 0), none⟩, ⟨some 14, .bin .geq (.t 13) (.c (.int .u64 256)), none⟩])
  (.cond (.t 14) (.seq (.ops false [⟨some 15, .mv (.t 0), none⟩, ⟨some 16, .bin .shr (.t 15) (.c (.int .u64 8)), none⟩, ⟨some 0, .mv (.t 16), none⟩])
   (.ops false [⟨some 17, .mv (.t 2), none⟩, ⟨some 18, .bin .add (.t 17) (.c (.int .i64 8)), none⟩, ⟨some 2, .mv (.t 18), none⟩]))
   (.skip)))
  (.seq (.ops false [⟨some 19, .mv (.t 2), none⟩, ⟨some 20, .mv (.t 0), none⟩, ⟨some 21, .conv .u8 (.t 20), none⟩, ⟨some 22, .index (.c (.str [0, 1, 2, 2, 3, 3, 3, 3, 4, 4, 4, 4, 4, 4, 4, 4, 5, 5, 5, 5, 5, 5, 5, 5, 5, 5, 5, 5, 5, 5, 5, 5, 6, 6, 6, 6, 6, 6, 6, 6, 6, 6, 6, 6, 6, 6, 6, 6, 6, 6, 6, 6, 6, 6, 6, 6, 6, 6, 6, 6, 6, 6, 6, 6, 7, 7, 7, 7, 7, 7, 7, 7, 7, 7, 7, 7, 7, 7, 7, 7, 7, 7, 7, 7, 7, 7, 7, 7, 7, 7, 7, 7, 7, 7, 7, 7, 7, 7, 7, 7, 7, 7, 7, 7, 7, 7, 7, 7, 7, 7, 7, 7, 7, 7, 7, 7, 7, 7, 7, 7, 7, 7, 7, 7, 7, 7, 7, 7, 8, 8, 8, 8, 8, 8, 8, 8, 8, 8, 8, 8, 8, 8, 8, 8, 8, 8, 8, 8, 8, 8, 8, 8, 8, 8, 8, 8, 8, 8, 8, 8, 8, 8, 8, 8, 8, 8, 8, 8, 8, 8, 8, 8, 8, 8, 8, 8, 8, 8, 8, 8, 8, 8, 8, 8, 8, 8, 8, 8, 8, 8, 8, 8, 8, 8, 8, 8, 8, 8, 8, 8, 8, 8, 8, 8, 8, 8, 8, 8, 8, 8, 8, 8, 8, 8, 8, 8, 8, 8, 8, 8, 8, 8, 8, 8, 8, 8, 8, 8, 8, 8, 8, 8, 8, 8, 8, 8, 8, 8, 8, 8, 8, 8, 8, 8, 8, 8, 8, 8, 8, 8, 8, 8, 8, 8, 8, 8])) (.t 21), none⟩, ⟨some 23, .conv .i64 (.t 22), none⟩, ⟨some 24, .bin .add (.t 19) (.t 23), none⟩, ⟨some 2, .mv (.t 24), none⟩])
  (.ret))))),
  [.t 2]⟩

/- internal/strconv.bool2[int] -/
def d_internal_strconv_bool2_int : DFun := ⟨
  .seq (.ops false [⟨some 2, .mv (.c (.int .i64 0)), none⟩])
  (.seq (.seq (.ops false [⟨some 3, .mv (.t 0), none⟩])
  (.cond (.t 3) (.seq (.ops false [⟨some 2, .mv (.c (.int .i64 1)), none⟩])
   (.ret))
   (.skip)))
  (.seq (.ops false [⟨some 2, .mv (.c (.int .i64 0)), none⟩])
  (.ret))),
  [.t 2]⟩

/- internal/strconv.isPowerOfTwo -/
def d_internal_strconv_isPowerOfTwo : DFun := ⟨
  .seq (.ops false [⟨some 2, .mv (.c (.bool false)), none⟩])
  (.seq (.ops false [⟨some 3, .mv (.t 0), none⟩, ⟨some 4, .mv (.t 0), none⟩, ⟨some 5, .bin .sub (.t 4) (.c (.int .i64 1)), none⟩, ⟨some 6, .bin .and (.t 3) (.t 5), none⟩, ⟨some 7, .bin .eql (.t 6) (.c (.int .i64 0)), none⟩, ⟨some 2, .mv (.t 7), none⟩])
  (.ret)),
  [.t 2]⟩

/- math/bits.TrailingZeros -/
def d_math_bits_TrailingZeros : DFun := ⟨
  .seq (.ops false [⟨some 2, .mv (.c (.int .i64 0)), none⟩])
  (.seq (.cond (.c (.bool false)) (.seq (.ops false [⟨some 3, .mv (.t 0), none⟩, ⟨some 4, .conv .u32 (.t 3), none⟩, ⟨some 5, .callP 63 [(.t 4)], none⟩, ⟨some 2, .mv (.t 5), none⟩])
   (.ret))
   (.skip))
  (.seq (.ops false [⟨some 6, .mv (.t 0), none⟩, ⟨some 7, .callP 64 [(.t 6)], none⟩, ⟨some 2, .mv (.t 7), none⟩])
  (.ret))),
  [.t 2]⟩

/- math/bits.TrailingZeros32 -/
def d_math_bits_TrailingZeros32 : DFun := ⟨
  .seq (.ops false [⟨some 2, .mv (.c (.int .i64 0)), none⟩])
  (.seq (.seq (.ops false [⟨some 3, .mv (.t 0), none⟩, ⟨some 4, .bin .eql (.t 3) (.c (.int .u32 0)), none⟩])
  (.cond (.t 4) (.seq (.ops false [⟨some 2, .mv (.c (.int .i64 32)), none⟩])
   (.ret))
   (.skip)))
  (.seq (.ops false [⟨some 5, .mv (.t 0), none⟩, ⟨some 6, .mv (.t 0), none⟩, ⟨some 7, .un .neg (.t 6), none⟩, ⟨some 8, .bin .and (.t 5) (.t 7), none⟩, ⟨some 9, .bin .mul (.t 8) (.c (.int .u32 125613361)), none⟩, ⟨some 10, .bin .shr (.t 9) (.c (.int .u64 27)), none⟩, ⟨some 11, .bad, none⟩, ⟨some 12, .load none (.t 11), none⟩, ⟨some 13, .conv .i64 (.t 12), none⟩, ⟨some 2, .mv (.t 13), none⟩])
  (.ret))),
  [.t 2]⟩

/- math/bits.TrailingZeros64 -/
def d_math_bits_TrailingZeros64 : DFun := ⟨
  .seq (.ops false [⟨some 2, .mv (.c (.int .i64 0)), none⟩])
  (.seq (.seq (.ops false [⟨some 3, .mv (.t 0), none⟩, ⟨some 4, .bin .eql (.t 3) (.c (.int .u64 0)), none⟩])
  (.cond (.t 4) (.seq (.ops false [⟨some 2, .mv (.c (.int .i64 64)), none⟩])
   (.ret))
   (.skip)))
  (.seq (.ops false [⟨some 5, .mv (.t 0), none⟩, ⟨some 6, .mv (.t 0), none⟩, ⟨some 7, .un .neg (.t 6), none⟩, ⟨some 8, .bin .and (.t 5) (.t 7), none⟩, ⟨some 9, .bin .mul (.t 8) (.c (.int .u64 285870213051353865)), none⟩, ⟨some 10, .bin .shr (.t 9) (.c (.int .u64 58)), none⟩, ⟨some 11, .bad, none⟩, ⟨some 12, .load none (.t 11), none⟩, ⟨some 13, .conv .i64 (.t 12), none⟩, ⟨some 2, .mv (.t 13), none⟩])
  (.ret))),
  [.t 2]⟩

/- gosem.cut.vars -/
def d_gosem_cut_vars : DFun := ⟨
  .seq (.ops false [⟨some 0, .build [.int .u8 0, .int .u8 0, .int .u8 0, .int .u8 0, .int .u8 0, .int .u8 0, .int .u8 0, .int .u8 0, .int .u8 0, .int .u8 0, .int .u8 0, .int .u8 0, .int .u8 0, .int .u8 0, .int .u8 0, .int .u8 0, .int .u8 0, .int .u8 0, .int .u8 0, .int .u8 0, .int .u8 0, .int .u8 0, .int .u8 0, .int .u8 0, .int .u8 0, .int .u8 0, .int .u8 0, .int .u8 0, .int .u8 0, .int .u8 0, .int .u8 0, .int .u8 0] [(0, 1, (.c (.int .u8 0))), (1, 1, (.c (.int .u8 1))), (2, 1, (.c (.int .u8 28))), (3, 1, (.c (.int .u8 2))), (4, 1, (.c (.int .u8 29))), (5, 1, (.c (.int .u8 14))), (6, 1, (.c (.int .u8 24))), (7, 1, (.c (.int .u8 3))), (8, 1, (.c (.int .u8 30))), (9, 1, (.c (.int .u8 22))), (10, 1, (.c (.int .u8 20))), (11, 1, (.c (.int .u8 15))), (12, 1, (.c (.int .u8 25))), (13, 1, (.c (.int .u8 17))), (14, 1, (.c (.int .u8 4))), (15, 1, (.c (.int .u8 8))), (16, 1, (.c (.int .u8 31))), (17, 1, (.c (.int .u8 27))), (18, 1, (.c (.int .u8 13))), (19, 1, (.c (.int .u8 23))), (20, 1, (.c (.int .u8 21))), (21, 1, (.c (.int .u8 19))), (22, 1, (.c (.int .u8 16))), (23, 1, (.c (.int .u8 7))), (24, 1, (.c (.int .u8 26))), (25, 1, (.c (.int .u8 12))), (26, 1, (.c (.int .u8 18))), (27, 1, (.c (.int .u8 6))), (28, 1, (.c (.int .u8 11))), (29, 1, (.c (.int .u8 5))), (30, 1, (.c (.int .u8 10))), (31, 1, (.c (.int .u8 9)))], none⟩, ⟨none, .bad, none⟩])
  (.seq (.ops false [⟨some 1, .build [.int .u8 0, .int .u8 0, .int .u8 0, .int .u8 0, .int .u8 0, .int .u8 0, .int .u8 0, .int .u8 0, .int .u8 0, .int .u8 0, .int .u8 0, .int .u8 0, .int .u8 0, .int .u8 0, .int .u8 0, .int .u8 0, .int .u8 0, .int .u8 0, .int .u8 0, .int .u8 0, .int .u8 0, .int .u8 0, .int .u8 0, .int .u8 0, .int .u8 0, .int .u8 0, .int .u8 0, .int .u8 0, .int .u8 0, .int .u8 0, .int .u8 0, .int .u8 0, .int .u8 0, .int .u8 0, .int .u8 0, .int .u8 0, .int .u8 0, .int .u8 0, .int .u8 0, .int .u8 0, .int .u8 0, .int .u8 0, .int .u8 0, .int .u8 0, .int .u8 0, .int .u8 0, .int .u8 0, .int .u8 0, .int .u8 0, .int .u8 0, .int .u8 0, .int .u8 0, .int .u8 0, .int .u8 0, .int .u8 0, .int .u8 0, .int .u8 0, .int .u8 0, .int .u8 0, .int .u8 0, .int .u8 0, .int .u8 0, .int .u8 0, .int .u8 0] [(0, 1, (.c (.int .u8 0))), (1, 1, (.c (.int .u8 1))), (2, 1, (.c (.int .u8 56))), (3, 1, (.c (.int .u8 2))), (4, 1, (.c (.int .u8 57))), (5, 1, (.c (.int .u8 49))), (6, 1, (.c (.int .u8 28))), (7, 1, (.c (.int .u8 3))), (8, 1, (.c (.int .u8 61))), (9, 1, (.c (.int .u8 58))), (10, 1, (.c (.int .u8 42))), (11, 1, (.c (.int .u8 50))), (12, 1, (.c (.int .u8 38))), (13, 1, (.c (.int .u8 29))), (14, 1, (.c (.int .u8 17))), (15, 1, (.c (.int .u8 4))), (16, 1, (.c (.int .u8 62))), (17, 1, (.c (.int .u8 47))), (18, 1, (.c (.int .u8 59))), (19, 1, (.c (.int .u8 36))), (20, 1, (.c (.int .u8 45))), (21, 1, (.c (.int .u8 43))), (22, 1, (.c (.int .u8 51))), (23, 1, (.c (.int .u8 22))), (24, 1, (.c (.int .u8 53))), (25, 1, (.c (.int .u8 39))), (26, 1, (.c (.int .u8 33))), (27, 1, (.c (.int .u8 30))), (28, 1, (.c (.int .u8 24))), (29, 1, (.c (.int .u8 18))), (30, 1, (.c (.int .u8 12))), (31, 1, (.c (.int .u8 5))), (32, 1, (.c (.int .u8 63))), (33, 1, (.c (.int .u8 55))), (34, 1, (.c (.int .u8 48))), (35, 1, (.c (.int .u8 27))), (36, 1, (.c (.int .u8 60))), (37, 1, (.c (.int .u8 41))), (38, 1, (.c (.int .u8 37))), (39, 1, (.c (.int .u8 16))), (40, 1, (.c (.int .u8 46))), (41, 1, (.c (.int .u8 35))), (42, 1, (.c (.int .u8 44))), (43, 1, (.c (.int .u8 21))), (44, 1, (.c (.int .u8 52))), (45, 1, (.c (.int .u8 32))), (46, 1, (.c (.int .u8 23))), (47, 1, (.c (.int .u8 11))), (48, 1, (.c (.int .u8 54))), (49, 1, (.c (.int .u8 26))), (50, 1, (.c (.int .u8 40))), (51, 1, (.c (.int .u8 15))), (52, 1, (.c (.int .u8 34))), (53, 1, (.c (.int .u8 20))), (54, 1, (.c (.int .u8 31))), (55, 1, (.c (.int .u8 10))), (56, 1, (.c (.int .u8 25))), (57, 1, (.c (.int .u8 14))), (58, 1, (.c (.int .u8 19))), (59, 1, (.c (.int .u8 9))), (60, 1, (.c (.int .u8 13))), (61, 1, (.c (.int .u8 8))), (62, 1, (.c (.int .u8 7))), (63, 1, (.c (.int .u8 6)))], none⟩, ⟨none, .bad, none⟩])
  (.ops false [⟨some 2, .build [.int .u64 0, .int .u64 0, .int .u64 0, .int .u64 0, .int .u64 0, .int .u64 0, .int .u64 0, .int .u64 0, .int .u64 0, .int .u64 0, .int .u64 0, .int .u64 0, .int .u64 0, .int .u64 0, .int .u64 0, .int .u64 0, .int .u64 0, .int .u64 0, .int .u64 0, .int .u64 0] [(0, 1, (.c (.int .u64 1))), (1, 1, (.c (.int .u64 10))), (2, 1, (.c (.int .u64 100))), (3, 1, (.c (.int .u64 1000))), (4, 1, (.c (.int .u64 10000))), (5, 1, (.c (.int .u64 100000))), (6, 1, (.c (.int .u64 1000000))), (7, 1, (.c (.int .u64 10000000))), (8, 1, (.c (.int .u64 100000000))), (9, 1, (.c (.int .u64 1000000000))), (10, 1, (.c (.int .u64 10000000000))), (11, 1, (.c (.int .u64 100000000000))), (12, 1, (.c (.int .u64 1000000000000))), (13, 1, (.c (.int .u64 10000000000000))), (14, 1, (.c (.int .u64 100000000000000))), (15, 1, (.c (.int .u64 1000000000000000))), (16, 1, (.c (.int .u64 10000000000000000))), (17, 1, (.c (.int .u64 100000000000000000))), (18, 1, (.c (.int .u64 1000000000000000000))), (19, 1, (.c (.int .u64 10000000000000000000)))], none⟩, ⟨none, .bad, none⟩])),
  []⟩

end Go.Proofs.YtaoabkpfidbogaaDoor
