/- The data-level reading of the functions. -/
import Derived.Test.YtiidllpiipcdjaaNkZ
set_option linter.all false
namespace Go.Proofs.Ytiidllpiipcdjaa
open Go.Nk

/- noria/norialaw36.FaceThirds -/
def d_norialaw36_FaceThirds : DFun := ⟨
  .seq (.ops false [⟨some 1, .box (.t 0), none⟩, ⟨some 2, .mv (.c (.bool false)), none⟩])
  (.seq (.seq (.ops false [⟨some 3, .mv (.c (.int .i64 0)), none⟩])
  (.block 0 (.loop [1, 3] (some 1) (.seq (.seq (.ops false [⟨some 7, .mv (.t 3), none⟩, ⟨some 8, .bin .lss (.t 7) (.c (.int .i64 3)), none⟩])
    (.cond (.t 8) (.skip)
     (.exit 0)))
    (.seq (.block 1 (.seq (.ops false [⟨some 11, .mv (.t 3), none⟩, ⟨some 12, .iaddrA 3 6 (.t 1) (.t 11), none⟩, ⟨some 13, .load (some 6) (.t 12), none⟩, ⟨some 14, .callP 7 [(.t 13)], none⟩, ⟨some 15, .un .not (.t 14), none⟩, ⟨some 16, .mv (.t 15), none⟩, ⟨some 17, .mv (.t 3), some (16, false)⟩, ⟨some 18, .iaddrA 3 6 (.t 1) (.t 17), some (16, false)⟩, ⟨some 19, .faddr 0 (.t 18), some (16, false)⟩, ⟨some 20, .load none (.t 19), some (16, false)⟩, ⟨some 21, .callP 8 [(.t 20)], some (16, false)⟩, ⟨some 22, .bin .neq (.t 21) (.c (.int .i64 0)), some (16, false)⟩, ⟨some 23, .pick (.t 16) (.c (.bool true)) (.t 22), none⟩])
     (.cond (.t 23) (.seq (.ops false [⟨some 24, .callP 9 [], none⟩, ⟨some 2, .mv (.t 24), none⟩])
      (.ret))
      (.skip))))
    (.ops false [⟨some 9, .mv (.t 3), none⟩, ⟨some 10, .bin .add (.t 9) (.c (.int .i64 1)), none⟩, ⟨some 3, .mv (.t 10), none⟩]))))))
  (.seq (.opsP [(0, ⟨some 25, .iaddrA 3 6 (.t 1) (.c (.int .i64 0)), none⟩), (1, ⟨some 26, .load (some 6) (.t 25), none⟩), (2, ⟨some 27, .iaddrA 3 6 (.t 1) (.c (.int .i64 1)), none⟩), (3, ⟨some 28, .load (some 6) (.t 27), none⟩), (5, ⟨some 30, .iaddrA 3 6 (.t 1) (.c (.int .i64 1)), none⟩), (6, ⟨some 31, .load (some 6) (.t 30), none⟩), (7, ⟨some 32, .iaddrA 3 6 (.t 1) (.c (.int .i64 2)), none⟩), (8, ⟨some 33, .load (some 6) (.t 32), none⟩), (10, ⟨some 35, .iaddrA 3 6 (.t 1) (.c (.int .i64 0)), none⟩), (11, ⟨some 36, .load (some 6) (.t 35), none⟩), (12, ⟨some 37, .iaddrA 3 6 (.t 1) (.c (.int .i64 2)), none⟩), (13, ⟨some 38, .load (some 6) (.t 37), none⟩), (4, ⟨some 29, .callP 10 [(.t 26), (.t 28)], none⟩), (9, ⟨some 34, .callP 10 [(.t 31), (.t 33)], none⟩), (14, ⟨some 39, .callP 10 [(.t 36), (.t 38)], none⟩), (15, ⟨some 4, .mv (.t 29), none⟩), (16, ⟨some 5, .mv (.t 34), none⟩), (17, ⟨some 6, .mv (.t 39), none⟩)])
  (.seq (.ops false [⟨some 40, .mv (.t 4), none⟩, ⟨some 41, .iaddrA 3 6 (.t 1) (.c (.int .i64 1)), none⟩, ⟨some 42, .load (some 6) (.t 41), none⟩, ⟨some 43, .iaddrA 3 6 (.t 1) (.c (.int .i64 0)), none⟩, ⟨some 44, .load (some 6) (.t 43), none⟩, ⟨some 45, .callP 10 [(.t 42), (.t 44)], none⟩, ⟨some 46, .beq false (.t 40) (.t 45), none⟩, ⟨some 47, .mv (.t 46), none⟩, ⟨some 48, .mv (.t 4), some (47, true)⟩, ⟨some 49, .un .not (.t 48), some (47, true)⟩, ⟨some 50, .mv (.t 49), some (47, true)⟩, ⟨some 51, .mv (.t 5), some (50, false)⟩, ⟨some 52, .un .not (.t 51), some (50, false)⟩, ⟨some 53, .pick (.t 50) (.c (.bool true)) (.t 52), some (47, true)⟩, ⟨some 54, .mv (.t 53), some (47, true)⟩, ⟨some 55, .mv (.t 6), some (54, false)⟩, ⟨some 56, .pick (.t 54) (.c (.bool true)) (.t 55), some (47, true)⟩, ⟨some 57, .pick (.t 47) (.t 56) (.c (.bool false)), none⟩, ⟨some 58, .mv (.t 57), none⟩, ⟨some 59, .callP 9 [], some (58, true)⟩, ⟨some 60, .pick (.t 58) (.t 59) (.c (.bool false)), none⟩, ⟨some 2, .mv (.t 60), none⟩])
  (.ret)))),
  [.t 2]⟩

/- noria/norialaw36.FaceSame -/
def d_norialaw36_FaceSame : DFun := ⟨
  .seq (.ops false [⟨some 2, .box (.t 0), none⟩, ⟨some 3, .box (.t 1), none⟩, ⟨some 4, .mv (.c (.bool false)), none⟩])
  (.seq (.seq (.ops false [⟨some 5, .load (some 6) (.t 2), none⟩, ⟨some 6, .callP 7 [(.t 5)], none⟩, ⟨some 7, .un .not (.t 6), none⟩, ⟨some 8, .mv (.t 7), none⟩, ⟨some 9, .load (some 6) (.t 3), some (8, false)⟩, ⟨some 10, .callP 7 [(.t 9)], some (8, false)⟩, ⟨some 11, .un .not (.t 10), some (8, false)⟩, ⟨some 12, .pick (.t 8) (.c (.bool true)) (.t 11), none⟩])
  (.cond (.t 12) (.seq (.ops false [⟨some 13, .callP 9 [], none⟩, ⟨some 4, .mv (.t 13), none⟩])
   (.ret))
   (.skip)))
  (.seq (.opsP [(0, ⟨some 14, .load (some 6) (.t 2), none⟩), (1, ⟨some 15, .load (some 6) (.t 3), none⟩), (3, ⟨some 17, .load (some 6) (.t 2), none⟩), (4, ⟨some 18, .load (some 6) (.t 3), none⟩), (2, ⟨some 16, .callP 10 [(.t 14), (.t 15)], none⟩), (5, ⟨some 19, .callP 11 [(.t 17), (.t 18)], none⟩), (6, ⟨some 20, .beq false (.t 16) (.t 19), none⟩), (7, ⟨some 21, .mv (.t 20), none⟩), (8, ⟨some 22, .load (some 6) (.t 2), some (21, true)⟩), (10, ⟨some 24, .load (some 6) (.t 2), some (21, true)⟩), (9, ⟨some 23, .callP 13 [(.t 22)], some (21, true)⟩), (11, ⟨some 25, .callP 14 [(.t 24)], some (21, true)⟩), (12, ⟨some 26, .callP 12 [(.t 23), (.t 25)], some (21, true)⟩), (13, ⟨some 27, .pick (.t 21) (.t 26) (.c (.bool false)), none⟩), (14, ⟨some 28, .mv (.t 27), none⟩), (15, ⟨some 29, .callP 9 [], some (28, true)⟩), (16, ⟨some 30, .pick (.t 28) (.t 29) (.c (.bool false)), none⟩), (17, ⟨some 4, .mv (.t 30), none⟩)])
  (.ret))),
  [.t 4]⟩

/- noria/norialaw36.FaceLays -/
def d_norialaw36_FaceLays : DFun := ⟨
  .seq (.ops false [⟨some 3, .box (.t 0), none⟩, ⟨some 6, .mv (.c (.bool false)), none⟩])
  (.seq (.seq (.ops false [⟨some 13, .load (some 6) (.t 3), none⟩, ⟨some 14, .callP 7 [(.t 13)], none⟩, ⟨some 15, .un .not (.t 14), none⟩, ⟨some 16, .mv (.t 15), none⟩, ⟨some 17, .mv (.t 1), some (16, false)⟩, ⟨some 18, .len (.t 17), some (16, false)⟩, ⟨some 19, .bin .gtr (.t 18) (.c (.int .i64 1300)), some (16, false)⟩, ⟨some 20, .pick (.t 16) (.c (.bool true)) (.t 19), none⟩, ⟨some 21, .mv (.t 20), none⟩, ⟨some 22, .mv (.t 2), some (21, false)⟩, ⟨some 23, .callP 15 [(.t 22)], some (21, false)⟩, ⟨some 24, .un .not (.t 23), some (21, false)⟩, ⟨some 25, .pick (.t 21) (.c (.bool true)) (.t 24), none⟩])
  (.cond (.t 25) (.seq (.ops false [⟨some 26, .callP 9 [], none⟩, ⟨some 6, .mv (.t 26), none⟩])
   (.ret))
   (.skip)))
  (.seq (.ops false [⟨some 28, .load (some 6) (.t 3), none⟩, ⟨some 29, .mv (.t 1), none⟩, ⟨some 30, .mv (.t 2), none⟩, ⟨some 31, .callP 16 [(.t 28), (.t 29), (.t 30)], none⟩, ⟨some 27, .mv (.t 31), none⟩, ⟨some 32, .extract 0 (.t 27), none⟩, ⟨some 33, .extract 1 (.t 27), none⟩, ⟨some 7, .mv (.t 32), none⟩, ⟨some 8, .mv (.t 33), none⟩])
  (.seq (.ops false [⟨some 35, .load (some 6) (.t 3), none⟩, ⟨some 36, .mv (.t 1), none⟩, ⟨some 37, .mv (.t 2), none⟩, ⟨some 38, .callP 17 [(.t 35), (.t 36), (.t 37)], none⟩, ⟨some 34, .mv (.t 38), none⟩, ⟨some 39, .extract 0 (.t 34), none⟩, ⟨some 40, .extract 1 (.t 34), none⟩, ⟨some 9, .mv (.t 39), none⟩, ⟨some 10, .mv (.t 40), none⟩])
  (.seq (.seq (.opsP [(0, ⟨some 41, .mv (.t 7), none⟩), (1, ⟨some 42, .mv (.t 9), none⟩), (2, ⟨some 43, .callP 12 [(.t 41), (.t 42)], none⟩), (3, ⟨some 44, .un .not (.t 43), none⟩), (4, ⟨some 45, .mv (.t 44), none⟩), (5, ⟨some 46, .mv (.t 8), some (45, false)⟩), (6, ⟨some 47, .mv (.t 10), some (45, false)⟩), (7, ⟨some 48, .beq true (.t 46) (.t 47), some (45, false)⟩), (8, ⟨some 49, .pick (.t 45) (.c (.bool true)) (.t 48), none⟩), (9, ⟨some 50, .mv (.t 49), none⟩), (10, ⟨some 51, .load (some 6) (.t 3), some (50, false)⟩), (11, ⟨some 52, .mv (.t 2), some (50, false)⟩), (13, ⟨some 54, .load (some 6) (.t 3), some (50, false)⟩), (14, ⟨some 55, .mv (.t 2), some (50, false)⟩), (12, ⟨some 53, .callP 18 [(.t 51), (.t 52)], some (50, false)⟩), (15, ⟨some 56, .callP 19 [(.t 54), (.t 55)], some (50, false)⟩), (16, ⟨some 57, .beq true (.t 53) (.t 56), some (50, false)⟩), (17, ⟨some 58, .pick (.t 50) (.c (.bool true)) (.t 57), none⟩)])
  (.cond (.t 58) (.seq (.ops false [⟨some 6, .mv (.c (.bool false)), none⟩])
   (.ret))
   (.skip)))
  (.seq (.seq (.ops false [⟨some 59, .mv (.t 8), none⟩, ⟨some 60, .un .not (.t 59), none⟩])
  (.cond (.t 60) (.seq (.ops false [⟨some 61, .callP 9 [], none⟩, ⟨some 6, .mv (.t 61), none⟩])
   (.ret))
   (.skip)))
  (.seq (.ops false [⟨some 63, .load (some 6) (.t 3), none⟩, ⟨some 64, .mv (.t 7), none⟩, ⟨some 65, .callP 20 [(.t 63), (.t 64)], none⟩, ⟨some 62, .mv (.t 65), none⟩, ⟨some 66, .extract 0 (.t 62), none⟩, ⟨some 67, .extract 1 (.t 62), none⟩, ⟨some 11, .mv (.t 66), none⟩, ⟨some 12, .mv (.t 67), none⟩])
  (.seq (.ops false [⟨some 68, .mv (.t 12), none⟩, ⟨some 69, .mv (.t 68), none⟩, ⟨some 70, .mv (.t 11), some (69, true)⟩, ⟨some 71, .mv (.t 1), some (69, true)⟩, ⟨some 72, .callP 12 [(.t 70), (.t 71)], some (69, true)⟩, ⟨some 73, .pick (.t 69) (.t 72) (.c (.bool false)), none⟩, ⟨some 74, .mv (.t 73), none⟩, ⟨some 75, .callP 9 [], some (74, true)⟩, ⟨some 76, .pick (.t 74) (.t 75) (.c (.bool false)), none⟩, ⟨some 6, .mv (.t 76), none⟩])
  (.ret)))))))),
  [.t 6]⟩

/- noria/norialaw36.FaceTells -/
def d_norialaw36_FaceTells : DFun := ⟨
  .seq (.ops false [⟨some 2, .box (.t 0), none⟩, ⟨some 4, .mv (.c (.bool false)), none⟩])
  (.seq (.seq (.ops false [⟨some 13, .load (some 6) (.t 2), none⟩, ⟨some 14, .callP 7 [(.t 13)], none⟩, ⟨some 15, .un .not (.t 14), none⟩, ⟨some 16, .mv (.t 15), none⟩, ⟨some 17, .mv (.t 1), some (16, false)⟩, ⟨some 18, .len (.t 17), some (16, false)⟩, ⟨some 19, .bin .gtr (.t 18) (.c (.int .i64 4000)), some (16, false)⟩, ⟨some 20, .pick (.t 16) (.c (.bool true)) (.t 19), none⟩])
  (.cond (.t 20) (.seq (.ops false [⟨some 21, .callP 9 [], none⟩, ⟨some 4, .mv (.t 21), none⟩])
   (.ret))
   (.skip)))
  (.seq (.ops false [⟨some 23, .load (some 6) (.t 2), none⟩, ⟨some 24, .mv (.t 1), none⟩, ⟨some 25, .callP 21 [(.t 23), (.t 24)], none⟩, ⟨some 22, .mv (.t 25), none⟩, ⟨some 26, .extract 0 (.t 22), none⟩, ⟨some 27, .extract 1 (.t 22), none⟩, ⟨some 5, .mv (.t 26), none⟩, ⟨some 6, .mv (.t 27), none⟩])
  (.seq (.ops false [⟨some 29, .load (some 6) (.t 2), none⟩, ⟨some 30, .mv (.t 1), none⟩, ⟨some 31, .callP 22 [(.t 29), (.t 30)], none⟩, ⟨some 28, .mv (.t 31), none⟩, ⟨some 32, .extract 0 (.t 28), none⟩, ⟨some 33, .extract 1 (.t 28), none⟩, ⟨some 7, .mv (.t 32), none⟩, ⟨some 8, .mv (.t 33), none⟩])
  (.seq (.ops false [⟨some 35, .load (some 6) (.t 2), none⟩, ⟨some 36, .mv (.t 1), none⟩, ⟨some 37, .callP 20 [(.t 35), (.t 36)], none⟩, ⟨some 34, .mv (.t 37), none⟩, ⟨some 38, .extract 0 (.t 34), none⟩, ⟨some 39, .extract 1 (.t 34), none⟩, ⟨some 9, .mv (.t 38), none⟩, ⟨some 10, .mv (.t 39), none⟩])
  (.seq (.ops false [⟨some 41, .load (some 6) (.t 2), none⟩, ⟨some 42, .mv (.t 1), none⟩, ⟨some 43, .callP 23 [(.t 41), (.t 42)], none⟩, ⟨some 40, .mv (.t 43), none⟩, ⟨some 44, .extract 0 (.t 40), none⟩, ⟨some 45, .extract 1 (.t 40), none⟩, ⟨some 11, .mv (.t 44), none⟩, ⟨some 12, .mv (.t 45), none⟩])
  (.seq (.ops false [⟨some 46, .mv (.t 5), none⟩, ⟨some 47, .mv (.t 7), none⟩, ⟨some 48, .callP 24 [(.t 46), (.t 47)], none⟩, ⟨some 49, .mv (.t 48), none⟩, ⟨some 50, .mv (.t 6), some (49, true)⟩, ⟨some 51, .mv (.t 8), some (49, true)⟩, ⟨some 52, .beq false (.t 50) (.t 51), some (49, true)⟩, ⟨some 53, .pick (.t 49) (.t 52) (.c (.bool false)), none⟩, ⟨some 54, .mv (.t 53), none⟩, ⟨some 55, .mv (.t 9), some (54, true)⟩, ⟨some 56, .mv (.t 11), some (54, true)⟩, ⟨some 57, .callP 12 [(.t 55), (.t 56)], some (54, true)⟩, ⟨some 58, .pick (.t 54) (.t 57) (.c (.bool false)), none⟩, ⟨some 59, .mv (.t 58), none⟩, ⟨some 60, .mv (.t 10), some (59, true)⟩, ⟨some 61, .mv (.t 12), some (59, true)⟩, ⟨some 62, .beq false (.t 60) (.t 61), some (59, true)⟩, ⟨some 63, .pick (.t 59) (.t 62) (.c (.bool false)), none⟩, ⟨some 64, .mv (.t 63), none⟩, ⟨some 65, .callP 9 [], some (64, true)⟩, ⟨some 66, .pick (.t 64) (.t 65) (.c (.bool false)), none⟩, ⟨some 4, .mv (.t 66), none⟩])
  (.ret))))))),
  [.t 4]⟩

/- noria/noriaref33.Few -/
def d_noriaref33_Few : DFun := ⟨
  .seq (.ops false [⟨some 1, .bref (.t 0), none⟩, ⟨some 2, .mv (.c (.bool false)), none⟩])
  (.seq (.seq (.ops false [⟨some 6, .faddr 0 (.t 1), none⟩, ⟨some 7, .load none (.t 6), none⟩, ⟨some 8, .callP 25 [(.t 7)], none⟩, ⟨some 9, .un .not (.t 8), none⟩, ⟨some 10, .mv (.t 9), none⟩, ⟨some 11, .faddr 1 (.t 1), some (10, false)⟩, ⟨some 12, .load none (.t 11), some (10, false)⟩, ⟨some 13, .len (.t 12), some (10, false)⟩, ⟨some 14, .faddr 2 (.t 1), some (10, false)⟩, ⟨some 15, .load none (.t 14), some (10, false)⟩, ⟨some 16, .len (.t 15), some (10, false)⟩, ⟨some 17, .bin .add (.t 13) (.t 16), some (10, false)⟩, ⟨some 18, .bin .gtr (.t 17) (.c (.int .i64 50)), some (10, false)⟩, ⟨some 19, .pick (.t 10) (.c (.bool true)) (.t 18), none⟩, ⟨some 20, .mv (.t 19), none⟩, ⟨some 21, .faddr 3 (.t 1), some (20, false)⟩, ⟨some 22, .load none (.t 21), some (20, false)⟩, ⟨some 23, .len (.t 22), some (20, false)⟩, ⟨some 24, .bin .gtr (.t 23) (.c (.int .i64 150)), some (20, false)⟩, ⟨some 25, .pick (.t 20) (.c (.bool true)) (.t 24), none⟩, ⟨some 26, .mv (.t 25), none⟩, ⟨some 27, .faddr 4 (.t 1), some (26, false)⟩, ⟨some 28, .load none (.t 27), some (26, false)⟩, ⟨some 29, .len (.t 28), some (26, false)⟩, ⟨some 30, .bin .gtr (.t 29) (.c (.int .i64 1100)), some (26, false)⟩, ⟨some 31, .pick (.t 26) (.c (.bool true)) (.t 30), none⟩, ⟨some 32, .mv (.t 31), none⟩, ⟨some 33, .faddr 5 (.t 1), some (32, false)⟩, ⟨some 34, .load none (.t 33), some (32, false)⟩, ⟨some 35, .len (.t 34), some (32, false)⟩, ⟨some 36, .bin .gtr (.t 35) (.c (.int .i64 800)), some (32, false)⟩, ⟨some 37, .pick (.t 32) (.c (.bool true)) (.t 36), none⟩])
  (.cond (.t 37) (.seq (.ops false [⟨some 2, .mv (.c (.bool false)), none⟩])
   (.ret))
   (.skip)))
  (.seq (.opsP [(1, ⟨some 39, .im (.faddr 1 (.t 1)), none⟩), (2, ⟨some 40, .im (.load none (.t 39)), none⟩), (4, ⟨some 42, .im (.faddr 2 (.t 1)), none⟩), (5, ⟨some 43, .im (.load none (.t 42)), none⟩), (0, ⟨some 38, .bslice false [.str [], .int .i64 0, .int .i64 0, .int .i64 0] [], none⟩), (3, ⟨some 41, .append 4 (.t 38) (.t 40), none⟩), (6, ⟨some 44, .append 4 (.t 41) (.t 43), none⟩), (7, ⟨some 3, .mv (.t 44), none⟩)])
  (.seq (.seq (.ops false [⟨some 4, .mv (.c (.int .i64 0)), none⟩])
  (.block 0 (.loop [1, 3, 4] (some 1) (.seq (.seq (.ops false [⟨some 45, .mv (.t 4), none⟩, ⟨some 46, .mv (.t 3), none⟩, ⟨some 47, .len (.t 46), none⟩, ⟨some 48, .bin .lss (.t 45) (.t 47), none⟩])
    (.cond (.t 48) (.skip)
     (.exit 0)))
    (.seq (.block 1 (.seq (.ops false [⟨some 51, .mv (.t 3), none⟩, ⟨some 52, .mv (.t 4), none⟩, ⟨some 53, .iaddr 4 (.t 51) (.t 52), none⟩, ⟨some 54, .faddr 0 (.t 53), none⟩, ⟨some 55, .load none (.t 54), none⟩, ⟨some 56, .lenS (.t 55), none⟩, ⟨some 57, .bin .gtr (.t 56) (.c (.int .i64 200)), none⟩])
     (.cond (.t 57) (.seq (.ops false [⟨some 2, .mv (.c (.bool false)), none⟩])
      (.ret))
      (.skip))))
    (.ops false [⟨some 49, .mv (.t 4), none⟩, ⟨some 50, .bin .add (.t 49) (.c (.int .i64 1)), none⟩, ⟨some 4, .mv (.t 50), none⟩]))))))
  (.seq (.seq (.ops false [⟨some 5, .mv (.c (.int .i64 0)), none⟩])
  (.block 2 (.loop [1, 5] (some 1) (.seq (.seq (.ops false [⟨some 58, .mv (.t 5), none⟩, ⟨some 59, .faddr 3 (.t 1), none⟩, ⟨some 60, .load none (.t 59), none⟩, ⟨some 61, .len (.t 60), none⟩, ⟨some 62, .bin .lss (.t 58) (.t 61), none⟩])
    (.cond (.t 62) (.skip)
     (.exit 2)))
    (.seq (.block 3 (.seq (.ops false [⟨some 65, .faddr 3 (.t 1), none⟩, ⟨some 66, .load none (.t 65), none⟩, ⟨some 67, .mv (.t 5), none⟩, ⟨some 68, .iaddr 6 (.t 66) (.t 67), none⟩, ⟨some 69, .faddr 0 (.t 68), none⟩, ⟨some 70, .load none (.t 69), none⟩, ⟨some 71, .lenS (.t 70), none⟩, ⟨some 72, .bin .gtr (.t 71) (.c (.int .i64 300)), none⟩, ⟨some 73, .mv (.t 72), none⟩, ⟨some 74, .faddr 3 (.t 1), some (73, false)⟩, ⟨some 75, .load none (.t 74), some (73, false)⟩, ⟨some 76, .mv (.t 5), some (73, false)⟩, ⟨some 77, .iaddr 6 (.t 75) (.t 76), some (73, false)⟩, ⟨some 78, .faddr 5 (.t 77), some (73, false)⟩, ⟨some 79, .load none (.t 78), some (73, false)⟩, ⟨some 80, .len (.t 79), some (73, false)⟩, ⟨some 81, .bin .gtr (.t 80) (.c (.int .i64 300)), some (73, false)⟩, ⟨some 82, .pick (.t 73) (.c (.bool true)) (.t 81), none⟩])
     (.cond (.t 82) (.seq (.ops false [⟨some 2, .mv (.c (.bool false)), none⟩])
      (.ret))
      (.skip))))
    (.ops false [⟨some 63, .mv (.t 5), none⟩, ⟨some 64, .bin .add (.t 63) (.c (.int .i64 1)), none⟩, ⟨some 5, .mv (.t 64), none⟩]))))))
  (.seq (.ops false [⟨some 2, .mv (.c (.bool true)), none⟩])
  (.ret)))))),
  [.t 2]⟩

/- noria/noriaref05.Enums -/
def d_noriaref05_Enums : DFun := ⟨
  .seq (.ops false [⟨some 2, .mv (.c (.int .i64 0)), none⟩])
  (.seq (.ops false [⟨some 8, .bslice false [.str []] [], none⟩, ⟨some 9, .bslice false [.str []] [], none⟩, ⟨some 3, .mv (.t 8), none⟩, ⟨some 4, .mv (.t 9), none⟩])
  (.seq (.seq (.ops false [⟨some 10, .mv (.t 0), none⟩, ⟨some 11, .len (.t 10), none⟩, ⟨some 12, .bin .gtr (.t 11) (.c (.int .i64 4)), none⟩])
  (.cond (.t 12) (.seq (.ops false [⟨some 2, .mv (.c (.int .i64 4)), none⟩])
   (.ret))
   (.skip)))
  (.seq (.seq (.ops false [⟨some 5, .mv (.c (.int .i64 0)), none⟩])
  (.block 0 (.loop [0, 3, 4, 5] (some 2) (.seq (.seq (.ops false [⟨some 13, .mv (.t 5), none⟩, ⟨some 14, .mv (.t 0), none⟩, ⟨some 15, .len (.t 14), none⟩, ⟨some 16, .bin .lss (.t 13) (.t 15), none⟩])
    (.cond (.t 16) (.skip)
     (.exit 0)))
    (.seq (.block 1 (.seq (.seq (.ops false [⟨some 19, .mv (.t 0), none⟩, ⟨some 20, .mv (.t 5), none⟩, ⟨some 21, .iaddr 2 (.t 19) (.t 20), none⟩, ⟨some 22, .faddr 1 (.t 21), none⟩, ⟨some 23, .load none (.t 22), none⟩, ⟨some 24, .len (.t 23), none⟩, ⟨some 25, .bin .gtr (.t 24) (.c (.int .i64 6)), none⟩])
     (.cond (.t 25) (.seq (.ops false [⟨some 2, .mv (.c (.int .i64 4)), none⟩])
      (.ret))
      (.skip)))
     (.seq (.ops false [⟨some 26, .mv (.t 3), none⟩, ⟨some 27, .mv (.t 0), none⟩, ⟨some 28, .mv (.t 5), none⟩, ⟨some 29, .iaddr 2 (.t 27) (.t 28), none⟩, ⟨some 30, .faddr 0 (.t 29), none⟩, ⟨some 31, .load none (.t 30), none⟩, ⟨some 32, .bslice true [.str []] [(some (.t 31))], none⟩, ⟨some 33, .append 1 (.t 26) (.t 32), none⟩, ⟨some 3, .mv (.t 33), none⟩])
     (.ops false [⟨some 34, .mv (.t 4), none⟩, ⟨some 35, .mv (.t 0), none⟩, ⟨some 36, .mv (.t 5), none⟩, ⟨some 37, .iaddr 2 (.t 35) (.t 36), none⟩, ⟨some 38, .faddr 1 (.t 37), none⟩, ⟨some 39, .load none (.t 38), none⟩, ⟨some 40, .append 1 (.t 34) (.t 39), none⟩, ⟨some 4, .mv (.t 40), none⟩]))))
    (.ops false [⟨some 17, .mv (.t 5), none⟩, ⟨some 18, .bin .add (.t 17) (.c (.int .i64 1)), none⟩, ⟨some 5, .mv (.t 18), none⟩]))))))
  (.seq (.seq (.ops false [⟨some 6, .mv (.c (.int .i64 0)), none⟩])
  (.block 2 (.loop [0, 3, 4, 6] (some 2) (.seq (.seq (.ops false [⟨some 41, .mv (.t 6), none⟩, ⟨some 42, .mv (.t 0), none⟩, ⟨some 43, .len (.t 42), none⟩, ⟨some 44, .bin .lss (.t 41) (.t 43), none⟩])
    (.cond (.t 44) (.skip)
     (.exit 2)))
    (.seq (.block 3 (.seq (.ops false [⟨some 47, .mv (.t 0), none⟩, ⟨some 48, .mv (.t 6), none⟩, ⟨some 49, .iaddr 2 (.t 47) (.t 48), none⟩, ⟨some 50, .faddr 0 (.t 49), none⟩, ⟨some 51, .load none (.t 50), none⟩, ⟨some 52, .callP 26 [(.t 51)], none⟩, ⟨some 53, .un .not (.t 52), none⟩, ⟨some 54, .mv (.t 53), none⟩, ⟨some 55, .mv (.t 0), some (54, false)⟩, ⟨some 56, .mv (.t 6), some (54, false)⟩, ⟨some 57, .iaddr 2 (.t 55) (.t 56), some (54, false)⟩, ⟨some 58, .faddr 1 (.t 57), some (54, false)⟩, ⟨some 59, .load none (.t 58), some (54, false)⟩, ⟨some 60, .len (.t 59), some (54, false)⟩, ⟨some 61, .bin .eql (.t 60) (.c (.int .i64 0)), some (54, false)⟩, ⟨some 62, .pick (.t 54) (.c (.bool true)) (.t 61), none⟩])
     (.cond (.t 62) (.seq (.ops false [⟨some 2, .mv (.c (.int .i64 1)), none⟩])
      (.ret))
      (.skip))))
    (.ops false [⟨some 45, .mv (.t 6), none⟩, ⟨some 46, .bin .add (.t 45) (.c (.int .i64 1)), none⟩, ⟨some 6, .mv (.t 46), none⟩]))))))
  (.seq (.seq (.ops false [⟨some 7, .mv (.c (.int .i64 0)), none⟩])
  (.block 4 (.loop [3, 4, 7] (some 2) (.seq (.seq (.ops false [⟨some 63, .mv (.t 7), none⟩, ⟨some 64, .mv (.t 4), none⟩, ⟨some 65, .len (.t 64), none⟩, ⟨some 66, .bin .lss (.t 63) (.t 65), none⟩])
    (.cond (.t 66) (.skip)
     (.exit 4)))
    (.seq (.block 5 (.seq (.ops false [⟨some 69, .mv (.t 4), none⟩, ⟨some 70, .mv (.t 7), none⟩, ⟨some 71, .iaddr 1 (.t 69) (.t 70), none⟩, ⟨some 72, .load none (.t 71), none⟩, ⟨some 73, .callP 27 [(.t 72)], none⟩, ⟨some 74, .un .not (.t 73), none⟩])
     (.cond (.t 74) (.seq (.ops false [⟨some 2, .mv (.c (.int .i64 1)), none⟩])
      (.ret))
      (.skip))))
    (.ops false [⟨some 67, .mv (.t 7), none⟩, ⟨some 68, .bin .add (.t 67) (.c (.int .i64 1)), none⟩, ⟨some 7, .mv (.t 68), none⟩]))))))
  (.seq (.seq (.ops false [⟨some 75, .mv (.t 3), none⟩, ⟨some 76, .callP 28 [(.t 75)], none⟩, ⟨some 77, .un .not (.t 76), none⟩, ⟨some 78, .mv (.t 77), none⟩, ⟨some 79, .mv (.t 4), some (78, false)⟩, ⟨some 80, .callP 28 [(.t 79)], some (78, false)⟩, ⟨some 81, .un .not (.t 80), some (78, false)⟩, ⟨some 82, .pick (.t 78) (.c (.bool true)) (.t 81), none⟩])
  (.cond (.t 82) (.seq (.ops false [⟨some 2, .mv (.c (.int .i64 6)), none⟩])
   (.ret))
   (.skip)))
  (.seq (.ops false [⟨some 2, .mv (.c (.int .i64 0)), none⟩])
  (.ret)))))))),
  [.t 2]⟩

/- noria/norialaw36.live -/
def d_norialaw36_live : DFun := ⟨
  .seq (.ops false [⟨some 0, .mv (.c (.bool false)), none⟩])
  (.seq (.ops false [⟨some 5, .build [.int .i64 0, .int .i64 0, .int .i64 0] [(0, 1, (.c (.int .i64 1)))], none⟩, ⟨some 1, .alloc [.int .i64 0, .int .i64 0, .int .i64 0], none⟩, ⟨none, .store 3 (.t 1) (.t 5), none⟩])
  (.seq (.ops false [⟨some 6, .load (some 3) (.t 1), none⟩, ⟨some 7, .build [.str [], .int .i64 0, .int .i64 0, .int .i64 0] [(0, 1, (.c (.str [97]))), (1, 3, (.t 6))], none⟩, ⟨some 8, .bslice true [.str [], .int .i64 0, .int .i64 0, .int .i64 0] [(some (.t 7))], none⟩, ⟨some 9, .load (some 3) (.t 1), none⟩, ⟨some 10, .build [.str [], .int .i64 0, .int .i64 0, .int .i64 0] [(0, 1, (.c (.str [98]))), (1, 3, (.t 9))], none⟩, ⟨some 11, .bslice true [.str [], .int .i64 0, .int .i64 0, .int .i64 0] [(some (.t 10))], none⟩, ⟨some 12, .bslice true [.int .i64 0] [(some (.c (.int .i64 1)))], none⟩, ⟨some 13, .build [.nil, .nil, .nil, .nil, .nil, .nil] [(1, 1, (.t 8)), (2, 1, (.t 11)), (4, 1, (.t 12))], none⟩, ⟨some 2, .alloc [.nil, .nil, .nil, .nil, .nil, .nil], none⟩, ⟨none, .store 6 (.t 2) (.t 13), none⟩])
  (.seq (.ops false [⟨some 15, .load (some 6) (.t 2), none⟩, ⟨some 16, .bslice true [.int .i64 0] [(some (.c (.int .i64 5)))], none⟩, ⟨some 17, .bslice true [.nil] [(some (.t 16))], none⟩, ⟨some 18, .callP 16 [(.t 15), (.c (.nil)), (.t 17)], none⟩, ⟨some 14, .mv (.t 18), none⟩, ⟨some 19, .extract 0 (.t 14), none⟩, ⟨some 20, .extract 1 (.t 14), none⟩, ⟨some 3, .mv (.t 19), none⟩, ⟨some 4, .mv (.t 20), none⟩])
  (.seq (.ops false [⟨some 21, .mv (.t 4), none⟩, ⟨some 22, .mv (.t 21), none⟩, ⟨some 23, .mv (.t 3), some (22, true)⟩, ⟨some 24, .bslice true [.int .i64 0] [(some (.c (.int .i64 5))), (some (.c (.int .i64 0))), (some (.c (.int .i64 0)))], some (22, true)⟩, ⟨some 25, .callP 12 [(.t 23), (.t 24)], some (22, true)⟩, ⟨some 26, .pick (.t 22) (.t 25) (.c (.bool false)), none⟩, ⟨some 27, .mv (.t 26), none⟩, ⟨some 28, .load (some 6) (.t 2), some (27, true)⟩, ⟨some 29, .load (some 6) (.t 2), some (27, true)⟩, ⟨some 30, .callP 10 [(.t 28), (.t 29)], some (27, true)⟩, ⟨some 31, .pick (.t 27) (.t 30) (.c (.bool false)), none⟩, ⟨some 0, .mv (.t 31), none⟩])
  (.ret))))),
  [.t 0]⟩

/- noria/face.Same -/
def d_face_Same : DFun := ⟨
  .seq (.ops false [⟨some 2, .box (.t 0), none⟩, ⟨some 3, .box (.t 1), none⟩, ⟨some 4, .mv (.c (.bool false)), none⟩])
  (.seq (.ops false [⟨some 6, .mkfun 29 [(.t 2), (.t 3)], none⟩, ⟨some 5, .mv (.t 6), none⟩])
  (.seq (.ops false [⟨some 7, .faddr 1 (.t 2), none⟩, ⟨some 8, .load none (.t 7), none⟩, ⟨some 9, .faddr 1 (.t 3), none⟩, ⟨some 10, .load none (.t 9), none⟩, ⟨some 11, .mv (.t 5), none⟩, ⟨some 12, .callP 31 [(.t 8), (.t 10), (.t 11)], none⟩, ⟨some 13, .mv (.t 12), none⟩, ⟨some 14, .faddr 2 (.t 2), some (13, true)⟩, ⟨some 15, .load none (.t 14), some (13, true)⟩, ⟨some 16, .faddr 2 (.t 3), some (13, true)⟩, ⟨some 17, .load none (.t 16), some (13, true)⟩, ⟨some 18, .mv (.t 5), some (13, true)⟩, ⟨some 19, .callP 31 [(.t 15), (.t 17), (.t 18)], some (13, true)⟩, ⟨some 20, .pick (.t 13) (.t 19) (.c (.bool false)), none⟩, ⟨some 4, .mv (.t 20), none⟩])
  (.ret))),
  [.t 4]⟩

/- noria/noriaref36.Same -/
def d_noriaref36_Same : DFun := ⟨
  .seq (.ops false [⟨some 2, .box (.t 0), none⟩, ⟨some 3, .box (.t 1), none⟩, ⟨some 4, .mv (.c (.bool false)), none⟩])
  (.seq (.ops false [⟨some 5, .faddr 0 (.t 2), none⟩, ⟨some 6, .load none (.t 5), none⟩, ⟨some 7, .faddr 1 (.t 2), none⟩, ⟨some 8, .load none (.t 7), none⟩, ⟨some 9, .faddr 0 (.t 3), none⟩, ⟨some 10, .load none (.t 9), none⟩, ⟨some 11, .faddr 1 (.t 3), none⟩, ⟨some 12, .load none (.t 11), none⟩, ⟨some 13, .callP 32 [(.t 6), (.t 8), (.t 10), (.t 12)], none⟩, ⟨some 14, .mv (.t 13), none⟩, ⟨some 15, .faddr 0 (.t 2), some (14, true)⟩, ⟨some 16, .load none (.t 15), some (14, true)⟩, ⟨some 17, .faddr 2 (.t 2), some (14, true)⟩, ⟨some 18, .load none (.t 17), some (14, true)⟩, ⟨some 19, .faddr 0 (.t 3), some (14, true)⟩, ⟨some 20, .load none (.t 19), some (14, true)⟩, ⟨some 21, .faddr 2 (.t 3), some (14, true)⟩, ⟨some 22, .load none (.t 21), some (14, true)⟩, ⟨some 23, .callP 32 [(.t 16), (.t 18), (.t 20), (.t 22)], some (14, true)⟩, ⟨some 24, .pick (.t 14) (.t 23) (.c (.bool false)), none⟩, ⟨some 4, .mv (.t 24), none⟩])
  (.ret)),
  [.t 4]⟩

/- noria/noriaref01.Vals -/
def d_noriaref01_Vals : DFun := ⟨
  .seq (.ops false [⟨some 4, .mv (.c (.bool false)), none⟩])
  (.seq (.seq (.ops false [⟨some 6, .mv (.t 0), none⟩, ⟨some 7, .len (.t 6), none⟩, ⟨some 8, .mv (.t 1), none⟩, ⟨some 9, .len (.t 8), none⟩, ⟨some 10, .bin .neq (.t 7) (.t 9), none⟩])
  (.cond (.t 10) (.seq (.ops false [⟨some 4, .mv (.c (.bool false)), none⟩])
   (.ret))
   (.skip)))
  (.seq (.seq (.ops false [⟨some 5, .mv (.c (.int .i64 0)), none⟩])
  (.block 0 (.loop [0, 1, 5] (some 0) (.seq (.seq (.ops false [⟨some 11, .mv (.t 5), none⟩, ⟨some 12, .mv (.t 0), none⟩, ⟨some 13, .len (.t 12), none⟩, ⟨some 14, .bin .lss (.t 11) (.t 13), none⟩])
    (.cond (.t 14) (.skip)
     (.exit 0)))
    (.seq (.block 1 (.seq (.ops true [⟨some 17, .mv (.t 0), none⟩, ⟨some 18, .mv (.t 5), none⟩, ⟨some 19, .iaddr 1 (.t 17) (.t 18), none⟩, ⟨some 20, .load none (.t 19), none⟩, ⟨some 21, .mv (.t 1), none⟩, ⟨some 22, .mv (.t 5), none⟩, ⟨some 23, .iaddr 1 (.t 21) (.t 22), none⟩, ⟨some 24, .load none (.t 23), none⟩, ⟨some 25, .bin .neq (.t 20) (.t 24), none⟩])
     (.cond (.t 25) (.seq (.ops false [⟨some 4, .mv (.c (.bool false)), none⟩])
      (.ret))
      (.skip))))
    (.ops false [⟨some 15, .mv (.t 5), none⟩, ⟨some 16, .bin .add (.t 15) (.c (.int .i64 1)), none⟩, ⟨some 5, .mv (.t 16), none⟩]))))))
  (.seq (.ops false [⟨some 4, .mv (.c (.bool true)), none⟩])
  (.ret)))),
  [.t 4]⟩

/- noria/face.Start -/
def d_face_Start : DFun := ⟨
  .seq (.ops false [⟨some 1, .box (.t 0), none⟩, ⟨some 2, .mv (.c (.nil)), none⟩])
  (.seq (.ops false [⟨some 3, .mkown 1 (.c (.nil)), none⟩])
  (.seq (.seq (.ops false [⟨some 6, .faddr 3 (.t 1), none⟩, ⟨some 7, .load none (.t 6), none⟩, ⟨some 8, .len (.t 7), none⟩, ⟨some 9, .mv (.c (.int .i64 0)), none⟩])
  (.block 0 (.loop [3, 7, 8, 9] (some 2) (.seq (.ops false [⟨some 10, .bin .lss (.t 9) (.t 8), none⟩])
    (.seq (.cond (.t 10) (.skip)
     (.exit 0))
    (.seq (.block 1 (.seq (.ops false [⟨some 11, .iaddr 6 (.t 7) (.t 9), none⟩, ⟨some 12, .load (some 6) (.t 11), none⟩, ⟨some 5, .alloc [.str [], .int .i64 0, .int .i64 0, .int .i64 0, .int .i64 0, .nil], none⟩, ⟨none, .store 6 (.t 5) (.t 12), none⟩])
     (.ops false [⟨some 13, .mv (.t 3), none⟩, ⟨some 14, .faddr 5 (.t 5), none⟩, ⟨some 15, .load none (.t 14), none⟩, ⟨some 16, .append 1 (.t 13) (.t 15), none⟩, ⟨some 3, .mv (.t 16), none⟩])))
    (.ops false [⟨some 17, .bin .add (.t 9) (.c (.int .i64 1)), none⟩, ⟨some 9, .mv (.t 17), none⟩])))))))
  (.seq (.ops false [⟨some 18, .mv (.t 3), none⟩, ⟨some 2, .mv (.t 18), none⟩])
  (.ret)))),
  [.t 2]⟩

/- noria/noriaref36.Start -/
def d_noriaref36_Start : DFun := ⟨
  .seq (.ops false [⟨some 1, .box (.t 0), none⟩, ⟨some 2, .mv (.c (.nil)), none⟩])
  (.seq (.ops false [⟨some 5, .bslice false [.int .i64 0] [], none⟩, ⟨some 3, .mv (.t 5), none⟩])
  (.seq (.seq (.ops false [⟨some 4, .mv (.c (.int .i64 0)), none⟩])
  (.block 0 (.loop [1, 3, 4] (some 2) (.seq (.seq (.ops false [⟨some 6, .mv (.t 4), none⟩, ⟨some 7, .faddr 3 (.t 1), none⟩, ⟨some 8, .load none (.t 7), none⟩, ⟨some 9, .len (.t 8), none⟩, ⟨some 10, .bin .lss (.t 6) (.t 9), none⟩])
    (.cond (.t 10) (.skip)
     (.exit 0)))
    (.seq (.block 1 (.ops false [⟨some 13, .mv (.t 3), none⟩, ⟨some 14, .faddr 3 (.t 1), none⟩, ⟨some 15, .load none (.t 14), none⟩, ⟨some 16, .mv (.t 4), none⟩, ⟨some 17, .iaddr 6 (.t 15) (.t 16), none⟩, ⟨some 18, .faddr 5 (.t 17), none⟩, ⟨some 19, .load none (.t 18), none⟩, ⟨some 20, .append 1 (.t 13) (.t 19), none⟩, ⟨some 3, .mv (.t 20), none⟩]))
    (.ops false [⟨some 11, .mv (.t 4), none⟩, ⟨some 12, .bin .add (.t 11) (.c (.int .i64 1)), none⟩, ⟨some 4, .mv (.t 12), none⟩]))))))
  (.seq (.ops false [⟨some 21, .mv (.t 3), none⟩, ⟨some 2, .mv (.t 21), none⟩])
  (.ret)))),
  [.t 2]⟩

/- noria/norialaw36.few -/
def d_norialaw36_few : DFun := ⟨
  .seq (.ops false [⟨some 2, .mv (.c (.bool false)), none⟩])
  (.seq (.seq (.ops false [⟨some 3, .mv (.c (.int .i64 0)), none⟩])
  (.block 0 (.loop [0, 3] (some 0) (.seq (.seq (.ops false [⟨some 4, .mv (.t 3), none⟩, ⟨some 5, .mv (.t 0), none⟩, ⟨some 6, .len (.t 5), none⟩, ⟨some 7, .bin .lss (.t 4) (.t 6), none⟩, ⟨some 8, .mv (.t 7), none⟩, ⟨some 9, .mv (.t 3), some (8, true)⟩, ⟨some 10, .bin .lss (.t 9) (.c (.int .i64 30)), some (8, true)⟩, ⟨some 11, .pick (.t 8) (.t 10) (.c (.bool false)), none⟩])
    (.cond (.t 11) (.skip)
     (.exit 0)))
    (.seq (.block 1 (.seq (.ops false [⟨some 14, .mv (.t 0), none⟩, ⟨some 15, .mv (.t 3), none⟩, ⟨some 16, .iaddr 1 (.t 14) (.t 15), none⟩, ⟨some 17, .load none (.t 16), none⟩, ⟨some 18, .len (.t 17), none⟩, ⟨some 19, .bin .gtr (.t 18) (.c (.int .i64 30)), none⟩])
     (.cond (.t 19) (.seq (.ops false [⟨some 2, .mv (.c (.bool false)), none⟩])
      (.ret))
      (.skip))))
    (.ops false [⟨some 12, .mv (.t 3), none⟩, ⟨some 13, .bin .add (.t 12) (.c (.int .i64 1)), none⟩, ⟨some 3, .mv (.t 13), none⟩]))))))
  (.seq (.ops false [⟨some 20, .mv (.t 0), none⟩, ⟨some 21, .len (.t 20), none⟩, ⟨some 22, .bin .leq (.t 21) (.c (.int .i64 20)), none⟩, ⟨some 2, .mv (.t 22), none⟩])
  (.ret))),
  [.t 2]⟩

/- noria/face.Lay -/
def d_face_Lay : DFun := ⟨
  .seq (.ops false [⟨some 3, .box (.t 0), none⟩, ⟨some 6, .mv (.c (.nil)), none⟩, ⟨some 7, .mv (.c (.bool false)), none⟩])
  (.seq (.seq (.ops false [⟨some 9, .mv (.t 1), none⟩, ⟨some 10, .len (.t 9), none⟩, ⟨some 11, .faddr 3 (.t 3), none⟩, ⟨some 12, .load none (.t 11), none⟩, ⟨some 13, .callP 33 [(.t 12)], none⟩, ⟨some 14, .bin .neq (.t 10) (.t 13), none⟩, ⟨some 15, .mv (.t 14), none⟩, ⟨some 16, .load (some 6) (.t 3), some (15, false)⟩, ⟨some 17, .mv (.t 2), some (15, false)⟩, ⟨some 18, .callP 18 [(.t 16), (.t 17)], some (15, false)⟩, ⟨some 19, .un .not (.t 18), some (15, false)⟩, ⟨some 20, .pick (.t 15) (.c (.bool true)) (.t 19), none⟩])
  (.cond (.t 20) (.seq (.ops false [⟨some 6, .mv (.c (.nil)), none⟩, ⟨some 7, .mv (.c (.bool false)), none⟩])
   (.ret))
   (.skip)))
  (.seq (.ops false [⟨some 21, .mv (.t 1), none⟩, ⟨some 22, .bslice false [.nil] [(some (.t 21))], none⟩, ⟨some 23, .mv (.t 2), none⟩, ⟨some 24, .append 1 (.t 22) (.t 23), none⟩, ⟨some 8, .mv (.t 24), none⟩])
  (.seq (.ops false [⟨some 25, .load (some 6) (.t 3), none⟩, ⟨some 26, .callP 35 [(.t 25)], none⟩, ⟨some 27, .field 1 none (.t 26), none⟩, ⟨some 28, .len (.t 27), none⟩, ⟨some 29, .mv (.t 8), none⟩, ⟨some 30, .callP 34 [(.t 28), (.t 29)], none⟩, ⟨some 6, .mv (.t 30), none⟩, ⟨some 7, .mv (.c (.bool true)), none⟩])
  (.ret)))),
  [.t 6, .t 7]⟩

/- noria/noriaref36.Lay -/
def d_noriaref36_Lay : DFun := ⟨
  .seq (.ops false [⟨some 3, .box (.t 0), none⟩, ⟨some 6, .mv (.c (.nil)), none⟩, ⟨some 7, .mv (.c (.bool false)), none⟩])
  (.seq (.seq (.ops false [⟨some 11, .mv (.t 1), none⟩, ⟨some 12, .len (.t 11), none⟩, ⟨some 13, .faddr 3 (.t 3), none⟩, ⟨some 14, .load none (.t 13), none⟩, ⟨some 15, .callP 36 [(.t 14)], none⟩, ⟨some 16, .bin .neq (.t 12) (.t 15), none⟩, ⟨some 17, .mv (.t 16), none⟩, ⟨some 18, .load (some 6) (.t 3), some (17, false)⟩, ⟨some 19, .mv (.t 2), some (17, false)⟩, ⟨some 20, .callP 19 [(.t 18), (.t 19)], some (17, false)⟩, ⟨some 21, .un .not (.t 20), some (17, false)⟩, ⟨some 22, .pick (.t 17) (.c (.bool true)) (.t 21), none⟩])
  (.cond (.t 22) (.seq (.ops false [⟨some 6, .mv (.c (.nil)), none⟩, ⟨some 7, .mv (.c (.bool false)), none⟩])
   (.ret))
   (.skip)))
  (.seq (.ops false [⟨some 23, .bslice false [.int .i64 0] [], none⟩, ⟨some 24, .mv (.t 1), none⟩, ⟨some 25, .append 1 (.t 23) (.t 24), none⟩, ⟨some 8, .mv (.t 25), none⟩])
  (.seq (.seq (.ops false [⟨some 9, .mv (.c (.int .i64 0)), none⟩])
  (.block 0 (.loop [2, 3, 8, 9] (some 2) (.seq (.seq (.ops false [⟨some 26, .mv (.t 9), none⟩, ⟨some 27, .mv (.t 2), none⟩, ⟨some 28, .len (.t 27), none⟩, ⟨some 29, .bin .lss (.t 26) (.t 28), none⟩])
    (.cond (.t 29) (.skip)
     (.exit 0)))
    (.seq (.block 1 (.ops false [⟨some 32, .mv (.t 8), none⟩, ⟨some 33, .mv (.t 2), none⟩, ⟨some 34, .mv (.t 9), none⟩, ⟨some 35, .iaddr 1 (.t 33) (.t 34), none⟩, ⟨some 36, .load none (.t 35), none⟩, ⟨some 37, .append 1 (.t 32) (.t 36), none⟩, ⟨some 8, .mv (.t 37), none⟩]))
    (.ops false [⟨some 30, .mv (.t 9), none⟩, ⟨some 31, .bin .add (.t 30) (.c (.int .i64 1)), none⟩, ⟨some 9, .mv (.t 31), none⟩]))))))
  (.seq (.ops false [⟨some 38, .load (some 6) (.t 3), none⟩, ⟨some 39, .callP 37 [(.t 38)], none⟩, ⟨some 40, .field 1 none (.t 39), none⟩, ⟨some 41, .len (.t 40), none⟩, ⟨some 10, .mv (.t 41), none⟩])
  (.seq (.block 2 (.loop [8, 10] (some 2) (.seq (.seq (.ops false [⟨some 42, .mv (.t 8), none⟩, ⟨some 43, .len (.t 42), none⟩, ⟨some 44, .mv (.t 10), none⟩, ⟨some 45, .bin .lss (.t 43) (.t 44), none⟩])
    (.cond (.t 45) (.skip)
     (.exit 2)))
    (.block 3 (.ops false [⟨some 46, .mv (.t 8), none⟩, ⟨some 47, .bslice true [.int .i64 0] [(some (.c (.int .i64 0)))], none⟩, ⟨some 48, .append 1 (.t 46) (.t 47), none⟩, ⟨some 8, .mv (.t 48), none⟩])))))
  (.seq (.ops false [⟨some 49, .mv (.t 8), none⟩, ⟨some 6, .mv (.t 49), none⟩, ⟨some 7, .mv (.c (.bool true)), none⟩])
  (.ret))))))),
  [.t 6, .t 7]⟩

/- noria/face.Ins -/
def d_face_Ins : DFun := ⟨
  .seq (.ops false [⟨some 2, .box (.t 0), none⟩, ⟨some 4, .mv (.c (.bool false)), none⟩])
  (.seq (.ops false [⟨some 6, .mkfun 38 [(.t 2)], none⟩, ⟨some 5, .mv (.t 6), none⟩])
  (.seq (.ops false [⟨some 7, .faddr 1 (.t 2), none⟩, ⟨some 8, .load none (.t 7), none⟩, ⟨some 9, .mv (.t 1), none⟩, ⟨some 10, .mv (.t 5), none⟩, ⟨some 11, .callP 40 [(.t 8), (.t 9), (.t 10)], none⟩, ⟨some 4, .mv (.t 11), none⟩])
  (.ret))),
  [.t 4]⟩

/- noria/noriaref36.Ins -/
def d_noriaref36_Ins : DFun := ⟨
  .seq (.ops false [⟨some 2, .box (.t 0), none⟩, ⟨some 4, .mv (.c (.bool false)), none⟩])
  (.seq (.seq (.ops false [⟨some 6, .mv (.t 1), none⟩, ⟨some 7, .len (.t 6), none⟩, ⟨some 8, .faddr 1 (.t 2), none⟩, ⟨some 9, .load none (.t 8), none⟩, ⟨some 10, .len (.t 9), none⟩, ⟨some 11, .bin .neq (.t 7) (.t 10), none⟩])
  (.cond (.t 11) (.seq (.ops false [⟨some 4, .mv (.c (.bool false)), none⟩])
   (.ret))
   (.skip)))
  (.seq (.seq (.ops false [⟨some 5, .mv (.c (.int .i64 0)), none⟩])
  (.block 0 (.loop [1, 2, 5] (some 1) (.seq (.seq (.ops false [⟨some 12, .mv (.t 5), none⟩, ⟨some 13, .mv (.t 1), none⟩, ⟨some 14, .len (.t 13), none⟩, ⟨some 15, .bin .lss (.t 12) (.t 14), none⟩])
    (.cond (.t 15) (.skip)
     (.exit 0)))
    (.seq (.block 1 (.seq (.ops true [⟨some 18, .faddr 0 (.t 2), none⟩, ⟨some 19, .load none (.t 18), none⟩, ⟨some 20, .faddr 1 (.t 2), none⟩, ⟨some 21, .load none (.t 20), none⟩, ⟨some 22, .mv (.t 5), none⟩, ⟨some 23, .iaddr 4 (.t 21) (.t 22), none⟩, ⟨some 24, .faddr 1 (.t 23), none⟩, ⟨some 25, .load (some 3) (.t 24), none⟩, ⟨some 26, .mv (.t 1), none⟩, ⟨some 27, .mv (.t 5), none⟩, ⟨some 28, .iaddr 1 (.t 26) (.t 27), none⟩, ⟨some 29, .load none (.t 28), none⟩, ⟨some 30, .callP 41 [(.t 19), (.t 25), (.t 29)], none⟩, ⟨some 31, .un .not (.t 30), none⟩])
     (.cond (.t 31) (.seq (.ops false [⟨some 4, .mv (.c (.bool false)), none⟩])
      (.ret))
      (.skip))))
    (.ops false [⟨some 16, .mv (.t 5), none⟩, ⟨some 17, .bin .add (.t 16) (.c (.int .i64 1)), none⟩, ⟨some 5, .mv (.t 17), none⟩]))))))
  (.seq (.ops false [⟨some 4, .mv (.c (.bool true)), none⟩])
  (.ret)))),
  [.t 4]⟩

/- noria/face.State -/
def d_face_State : DFun := ⟨
  .seq (.ops false [⟨some 2, .box (.t 0), none⟩, ⟨some 4, .mv (.c (.nil)), none⟩, ⟨some 5, .mv (.c (.bool false)), none⟩])
  (.seq (.ops false [⟨some 7, .load (some 6) (.t 2), none⟩, ⟨some 8, .callP 35 [(.t 7)], none⟩, ⟨some 6, .alloc [.nil, .nil, .int .i64 0, .int .i64 0], none⟩, ⟨none, .store 4 (.t 6) (.t 8), none⟩])
  (.seq (.seq (.ops false [⟨some 9, .mv (.t 1), none⟩, ⟨some 10, .len (.t 9), none⟩, ⟨some 11, .faddr 1 (.t 6), none⟩, ⟨some 12, .load none (.t 11), none⟩, ⟨some 13, .len (.t 12), none⟩, ⟨some 14, .bin .neq (.t 10) (.t 13), none⟩])
  (.cond (.t 14) (.seq (.ops false [⟨some 4, .mv (.c (.nil)), none⟩, ⟨some 5, .mv (.c (.bool false)), none⟩])
   (.ret))
   (.skip)))
  (.seq (.ops false [⟨some 15, .mv (.t 1), none⟩, ⟨some 16, .faddr 2 (.t 6), none⟩, ⟨some 17, .load none (.t 16), none⟩, ⟨some 18, .slice 1 (.t 15) none (some (.t 17)) none, none⟩, ⟨some 19, .callP 42 [(.t 18)], none⟩, ⟨some 4, .mv (.t 19), none⟩, ⟨some 5, .mv (.c (.bool true)), none⟩])
  (.ret)))),
  [.t 4, .t 5]⟩

/- noria/face.Told -/
def d_face_Told : DFun := ⟨
  .seq (.ops false [⟨some 2, .box (.t 0), none⟩, ⟨some 4, .mv (.c (.nil)), none⟩, ⟨some 5, .mv (.c (.bool false)), none⟩])
  (.seq (.ops false [⟨some 12, .load (some 6) (.t 2), none⟩, ⟨some 13, .callP 35 [(.t 12)], none⟩, ⟨some 6, .alloc [.nil, .nil, .int .i64 0, .int .i64 0], none⟩, ⟨none, .store 4 (.t 6) (.t 13), none⟩])
  (.seq (.seq (.ops false [⟨some 14, .mv (.t 1), none⟩, ⟨some 15, .len (.t 14), none⟩, ⟨some 16, .faddr 1 (.t 6), none⟩, ⟨some 17, .load none (.t 16), none⟩, ⟨some 18, .len (.t 17), none⟩, ⟨some 19, .bin .neq (.t 15) (.t 18), none⟩])
  (.cond (.t 19) (.seq (.ops false [⟨some 4, .mv (.c (.nil)), none⟩, ⟨some 5, .mv (.c (.bool false)), none⟩])
   (.ret))
   (.skip)))
  (.seq (.ops false [⟨some 7, .mkown 1 (.c (.nil)), none⟩])
  (.seq (.ops false [⟨some 20, .faddr 3 (.t 6), none⟩, ⟨some 21, .load none (.t 20), none⟩, ⟨some 8, .mv (.t 21), none⟩])
  (.seq (.seq (.ops false [⟨some 22, .faddr 2 (.t 2), none⟩, ⟨some 23, .load none (.t 22), none⟩, ⟨some 24, .len (.t 23), none⟩, ⟨some 25, .mv (.c (.int .i64 0)), none⟩])
  (.block 0 (.loop [1, 7, 8, 23, 24, 25] (some 3) (.seq (.ops false [⟨some 26, .bin .lss (.t 25) (.t 24), none⟩])
    (.seq (.cond (.t 26) (.skip)
     (.exit 0))
    (.seq (.block 1 (.seq (.ops false [⟨some 27, .iaddr 4 (.t 23) (.t 25), none⟩, ⟨some 28, .load (some 4) (.t 27), none⟩, ⟨some 10, .alloc [.str [], .int .i64 0, .int .i64 0, .int .i64 0], none⟩, ⟨none, .store 4 (.t 10) (.t 28), none⟩])
     (.seq (.ops false [⟨some 29, .faddr 1 (.t 10), none⟩, ⟨some 30, .load (some 3) (.t 29), none⟩, ⟨some 31, .callP 43 [(.t 30)], none⟩, ⟨some 11, .mv (.t 31), none⟩])
     (.seq (.ops false [⟨some 32, .mv (.t 7), none⟩, ⟨some 33, .mv (.t 1), none⟩, ⟨some 34, .mv (.t 8), none⟩, ⟨some 35, .mv (.t 8), none⟩, ⟨some 36, .mv (.t 11), none⟩, ⟨some 37, .bin .add (.t 35) (.t 36), none⟩, ⟨some 38, .slice 1 (.t 33) (some (.t 34)) (some (.t 37)) none, none⟩, ⟨some 39, .callP 42 [(.t 38)], none⟩, ⟨some 40, .bslice true [.nil] [(some (.t 39))], none⟩, ⟨some 41, .append 1 (.t 32) (.t 40), none⟩, ⟨some 7, .mv (.t 41), none⟩])
     (.ops false [⟨some 42, .mv (.t 8), none⟩, ⟨some 43, .mv (.t 11), none⟩, ⟨some 44, .bin .add (.t 42) (.t 43), none⟩, ⟨some 8, .mv (.t 44), none⟩])))))
    (.ops false [⟨some 45, .bin .add (.t 25) (.c (.int .i64 1)), none⟩, ⟨some 25, .mv (.t 45), none⟩])))))))
  (.seq (.ops false [⟨some 46, .mv (.t 7), none⟩, ⟨some 4, .mv (.t 46), none⟩, ⟨some 5, .mv (.c (.bool true)), none⟩])
  (.ret))))))),
  [.t 4, .t 5]⟩

/- noria/noriaref36.Told -/
def d_noriaref36_Told : DFun := ⟨
  .seq (.ops false [⟨some 2, .box (.t 0), none⟩, ⟨some 4, .mv (.c (.nil)), none⟩, ⟨some 5, .mv (.c (.bool false)), none⟩])
  (.seq (.ops false [⟨some 11, .load (some 6) (.t 2), none⟩, ⟨some 12, .callP 37 [(.t 11)], none⟩, ⟨some 6, .alloc [.nil, .nil, .int .i64 0, .int .i64 0], none⟩, ⟨none, .store 4 (.t 6) (.t 12), none⟩])
  (.seq (.seq (.ops false [⟨some 13, .mv (.t 1), none⟩, ⟨some 14, .len (.t 13), none⟩, ⟨some 15, .faddr 1 (.t 6), none⟩, ⟨some 16, .load none (.t 15), none⟩, ⟨some 17, .len (.t 16), none⟩, ⟨some 18, .bin .neq (.t 14) (.t 17), none⟩])
  (.cond (.t 18) (.seq (.ops false [⟨some 4, .mv (.c (.nil)), none⟩, ⟨some 5, .mv (.c (.bool false)), none⟩])
   (.ret))
   (.skip)))
  (.seq (.ops false [⟨some 19, .bslice false [.nil] [], none⟩, ⟨some 7, .mv (.t 19), none⟩])
  (.seq (.ops false [⟨some 20, .faddr 3 (.t 6), none⟩, ⟨some 21, .load none (.t 20), none⟩, ⟨some 8, .mv (.t 21), none⟩])
  (.seq (.seq (.ops false [⟨some 9, .mv (.c (.int .i64 0)), none⟩])
  (.block 0 (.loop [1, 2, 7, 8, 9] (some 3) (.seq (.seq (.ops false [⟨some 22, .mv (.t 9), none⟩, ⟨some 23, .faddr 2 (.t 2), none⟩, ⟨some 24, .load none (.t 23), none⟩, ⟨some 25, .len (.t 24), none⟩, ⟨some 26, .bin .lss (.t 22) (.t 25), none⟩])
    (.cond (.t 26) (.skip)
     (.exit 0)))
    (.seq (.block 1 (.seq (.ops false [⟨some 29, .faddr 2 (.t 2), none⟩, ⟨some 30, .load none (.t 29), none⟩, ⟨some 31, .mv (.t 9), none⟩, ⟨some 32, .iaddr 4 (.t 30) (.t 31), none⟩, ⟨some 33, .faddr 1 (.t 32), none⟩, ⟨some 34, .load (some 3) (.t 33), none⟩, ⟨some 35, .callP 44 [(.t 34)], none⟩, ⟨some 10, .mv (.t 35), none⟩])
     (.seq (.ops false [⟨some 36, .mv (.t 7), none⟩, ⟨some 37, .mv (.t 1), none⟩, ⟨some 38, .mv (.t 8), none⟩, ⟨some 39, .mv (.t 8), none⟩, ⟨some 40, .mv (.t 10), none⟩, ⟨some 41, .bin .add (.t 39) (.t 40), none⟩, ⟨some 42, .slice 1 (.t 37) (some (.t 38)) (some (.t 41)) none, none⟩, ⟨some 43, .bslice true [.nil] [(some (.t 42))], none⟩, ⟨some 44, .append 1 (.t 36) (.t 43), none⟩, ⟨some 7, .mv (.t 44), none⟩])
     (.ops false [⟨some 45, .mv (.t 8), none⟩, ⟨some 46, .mv (.t 10), none⟩, ⟨some 47, .bin .add (.t 45) (.t 46), none⟩, ⟨some 8, .mv (.t 47), none⟩]))))
    (.ops false [⟨some 27, .mv (.t 9), none⟩, ⟨some 28, .bin .add (.t 27) (.c (.int .i64 1)), none⟩, ⟨some 9, .mv (.t 28), none⟩]))))))
  (.seq (.ops false [⟨some 48, .mv (.t 7), none⟩, ⟨some 4, .mv (.t 48), none⟩, ⟨some 5, .mv (.c (.bool true)), none⟩])
  (.ret))))))),
  [.t 4, .t 5]⟩

/- noria/noriaref36.State -/
def d_noriaref36_State : DFun := ⟨
  .seq (.ops false [⟨some 2, .box (.t 0), none⟩, ⟨some 4, .mv (.c (.nil)), none⟩, ⟨some 5, .mv (.c (.bool false)), none⟩])
  (.seq (.ops false [⟨some 7, .load (some 6) (.t 2), none⟩, ⟨some 8, .callP 37 [(.t 7)], none⟩, ⟨some 6, .alloc [.nil, .nil, .int .i64 0, .int .i64 0], none⟩, ⟨none, .store 4 (.t 6) (.t 8), none⟩])
  (.seq (.seq (.ops false [⟨some 9, .mv (.t 1), none⟩, ⟨some 10, .len (.t 9), none⟩, ⟨some 11, .faddr 1 (.t 6), none⟩, ⟨some 12, .load none (.t 11), none⟩, ⟨some 13, .len (.t 12), none⟩, ⟨some 14, .bin .neq (.t 10) (.t 13), none⟩])
  (.cond (.t 14) (.seq (.ops false [⟨some 4, .mv (.c (.nil)), none⟩, ⟨some 5, .mv (.c (.bool false)), none⟩])
   (.ret))
   (.skip)))
  (.seq (.ops false [⟨some 15, .mv (.t 1), none⟩, ⟨some 16, .faddr 2 (.t 6), none⟩, ⟨some 17, .load none (.t 16), none⟩, ⟨some 18, .slice 1 (.t 15) none (some (.t 17)) none, none⟩, ⟨some 4, .mv (.t 18), none⟩, ⟨some 5, .mv (.c (.bool true)), none⟩])
  (.ret)))),
  [.t 4, .t 5]⟩

/- noria/noriaref24.SameRows -/
def d_noriaref24_SameRows : DFun := ⟨
  .seq (.ops false [⟨some 4, .mv (.c (.bool false)), none⟩])
  (.seq (.seq (.ops false [⟨some 7, .mv (.t 0), none⟩, ⟨some 8, .len (.t 7), none⟩, ⟨some 9, .mv (.t 1), none⟩, ⟨some 10, .len (.t 9), none⟩, ⟨some 11, .bin .neq (.t 8) (.t 10), none⟩])
  (.cond (.t 11) (.seq (.ops false [⟨some 4, .mv (.c (.bool false)), none⟩])
   (.ret))
   (.skip)))
  (.seq (.seq (.ops false [⟨some 5, .mv (.c (.int .i64 0)), none⟩])
  (.block 0 (.loop [0, 1, 5] (some 0) (.seq (.seq (.ops false [⟨some 12, .mv (.t 5), none⟩, ⟨some 13, .mv (.t 0), none⟩, ⟨some 14, .len (.t 13), none⟩, ⟨some 15, .bin .lss (.t 12) (.t 14), none⟩])
    (.cond (.t 15) (.skip)
     (.exit 0)))
    (.seq (.block 1 (.seq (.seq (.ops true [⟨some 18, .mv (.t 0), none⟩, ⟨some 19, .mv (.t 5), none⟩, ⟨some 20, .iaddr 1 (.t 18) (.t 19), none⟩, ⟨some 21, .load none (.t 20), none⟩, ⟨some 22, .len (.t 21), none⟩, ⟨some 23, .mv (.t 1), none⟩, ⟨some 24, .mv (.t 5), none⟩, ⟨some 25, .iaddr 1 (.t 23) (.t 24), none⟩, ⟨some 26, .load none (.t 25), none⟩, ⟨some 27, .len (.t 26), none⟩, ⟨some 28, .bin .neq (.t 22) (.t 27), none⟩])
     (.cond (.t 28) (.seq (.ops false [⟨some 4, .mv (.c (.bool false)), none⟩])
      (.ret))
      (.skip)))
     (.seq (.ops false [⟨some 6, .mv (.c (.int .i64 0)), none⟩])
     (.block 2 (.loop [0, 1, 5, 6] (some 0) (.seq (.seq (.ops false [⟨some 29, .mv (.t 6), none⟩, ⟨some 30, .mv (.t 0), none⟩, ⟨some 31, .mv (.t 5), none⟩, ⟨some 32, .iaddr 1 (.t 30) (.t 31), none⟩, ⟨some 33, .load none (.t 32), none⟩, ⟨some 34, .len (.t 33), none⟩, ⟨some 35, .bin .lss (.t 29) (.t 34), none⟩])
       (.cond (.t 35) (.skip)
        (.exit 2)))
       (.seq (.block 3 (.seq (.ops true [⟨some 38, .mv (.t 0), none⟩, ⟨some 39, .mv (.t 5), none⟩, ⟨some 40, .iaddr 1 (.t 38) (.t 39), none⟩, ⟨some 41, .load none (.t 40), none⟩, ⟨some 42, .mv (.t 6), none⟩, ⟨some 43, .iaddr 1 (.t 41) (.t 42), none⟩, ⟨some 44, .load none (.t 43), none⟩, ⟨some 45, .mv (.t 1), none⟩, ⟨some 46, .mv (.t 5), none⟩, ⟨some 47, .iaddr 1 (.t 45) (.t 46), none⟩, ⟨some 48, .load none (.t 47), none⟩, ⟨some 49, .mv (.t 6), none⟩, ⟨some 50, .iaddr 1 (.t 48) (.t 49), none⟩, ⟨some 51, .load none (.t 50), none⟩, ⟨some 52, .bin .neq (.t 44) (.t 51), none⟩])
        (.cond (.t 52) (.seq (.ops false [⟨some 4, .mv (.c (.bool false)), none⟩])
         (.ret))
         (.skip))))
       (.ops false [⟨some 36, .mv (.t 6), none⟩, ⟨some 37, .bin .add (.t 36) (.c (.int .i64 1)), none⟩, ⟨some 6, .mv (.t 37), none⟩]))))))))
    (.ops false [⟨some 16, .mv (.t 5), none⟩, ⟨some 17, .bin .add (.t 16) (.c (.int .i64 1)), none⟩, ⟨some 5, .mv (.t 17), none⟩]))))))
  (.seq (.ops false [⟨some 4, .mv (.c (.bool true)), none⟩])
  (.ret)))),
  [.t 4]⟩

/- noria/noriaref05.Small -/
def d_noriaref05_Small : DFun := ⟨
  .seq (.ops false [⟨some 2, .mv (.c (.bool false)), none⟩])
  (.seq (.seq (.ops false [⟨some 5, .mv (.t 0), none⟩, ⟨some 6, .len (.t 5), none⟩, ⟨some 7, .bin .gtr (.t 6) (.c (.int .i64 8)), none⟩])
  (.cond (.t 7) (.seq (.ops false [⟨some 2, .mv (.c (.bool false)), none⟩])
   (.ret))
   (.skip)))
  (.seq (.seq (.ops false [⟨some 3, .mv (.c (.int .i64 0)), none⟩])
  (.block 0 (.loop [0, 3] (some 0) (.seq (.seq (.ops false [⟨some 8, .mv (.t 3), none⟩, ⟨some 9, .mv (.t 0), none⟩, ⟨some 10, .len (.t 9), none⟩, ⟨some 11, .bin .lss (.t 8) (.t 10), none⟩])
    (.cond (.t 11) (.skip)
     (.exit 0)))
    (.seq (.block 1 (.seq (.seq (.ops false [⟨some 14, .mv (.t 0), none⟩, ⟨some 15, .mv (.t 3), none⟩, ⟨some 16, .iaddr 2 (.t 14) (.t 15), none⟩, ⟨some 17, .faddr 1 (.t 16), none⟩, ⟨some 18, .load none (.t 17), none⟩, ⟨some 19, .len (.t 18), none⟩, ⟨some 20, .bin .gtr (.t 19) (.c (.int .i64 12)), none⟩, ⟨some 21, .mv (.t 20), none⟩, ⟨some 22, .mv (.t 0), some (21, false)⟩, ⟨some 23, .mv (.t 3), some (21, false)⟩, ⟨some 24, .iaddr 2 (.t 22) (.t 23), some (21, false)⟩, ⟨some 25, .faddr 0 (.t 24), some (21, false)⟩, ⟨some 26, .load none (.t 25), some (21, false)⟩, ⟨some 27, .lenS (.t 26), some (21, false)⟩, ⟨some 28, .bin .gtr (.t 27) (.c (.int .i64 100)), some (21, false)⟩, ⟨some 29, .pick (.t 21) (.c (.bool true)) (.t 28), none⟩])
     (.cond (.t 29) (.seq (.ops false [⟨some 2, .mv (.c (.bool false)), none⟩])
      (.ret))
      (.skip)))
     (.seq (.ops false [⟨some 4, .mv (.c (.int .i64 0)), none⟩])
     (.block 2 (.loop [0, 3, 4] (some 0) (.seq (.seq (.ops false [⟨some 30, .mv (.t 4), none⟩, ⟨some 31, .mv (.t 0), none⟩, ⟨some 32, .mv (.t 3), none⟩, ⟨some 33, .iaddr 2 (.t 31) (.t 32), none⟩, ⟨some 34, .faddr 1 (.t 33), none⟩, ⟨some 35, .load none (.t 34), none⟩, ⟨some 36, .len (.t 35), none⟩, ⟨some 37, .bin .lss (.t 30) (.t 36), none⟩])
       (.cond (.t 37) (.skip)
        (.exit 2)))
       (.seq (.block 3 (.seq (.ops false [⟨some 40, .mv (.t 0), none⟩, ⟨some 41, .mv (.t 3), none⟩, ⟨some 42, .iaddr 2 (.t 40) (.t 41), none⟩, ⟨some 43, .faddr 1 (.t 42), none⟩, ⟨some 44, .load none (.t 43), none⟩, ⟨some 45, .mv (.t 4), none⟩, ⟨some 46, .iaddr 1 (.t 44) (.t 45), none⟩, ⟨some 47, .load none (.t 46), none⟩, ⟨some 48, .lenS (.t 47), none⟩, ⟨some 49, .bin .gtr (.t 48) (.c (.int .i64 100)), none⟩])
        (.cond (.t 49) (.seq (.ops false [⟨some 2, .mv (.c (.bool false)), none⟩])
         (.ret))
         (.skip))))
       (.ops false [⟨some 38, .mv (.t 4), none⟩, ⟨some 39, .bin .add (.t 38) (.c (.int .i64 1)), none⟩, ⟨some 4, .mv (.t 39), none⟩]))))))))
    (.ops false [⟨some 12, .mv (.t 3), none⟩, ⟨some 13, .bin .add (.t 12) (.c (.int .i64 1)), none⟩, ⟨some 3, .mv (.t 13), none⟩]))))))
  (.seq (.ops false [⟨some 2, .mv (.c (.bool true)), none⟩])
  (.ret)))),
  [.t 2]⟩

/- noria/noriaref04.Low -/
def d_noriaref04_Low : DFun := ⟨
  .seq (.ops false [⟨some 2, .mv (.c (.bool false)), none⟩])
  (.seq (.ops false [⟨some 3, .mv (.t 0), none⟩, ⟨some 4, .callP 45 [(.t 3), (.c (.int .u8 97)), (.c (.int .u8 122))], none⟩, ⟨some 5, .mv (.t 4), none⟩, ⟨some 6, .mv (.t 0), some (5, true)⟩, ⟨some 7, .callP 46 [(.t 6)], some (5, true)⟩, ⟨some 8, .un .not (.t 7), some (5, true)⟩, ⟨some 9, .pick (.t 5) (.t 8) (.c (.bool false)), none⟩, ⟨some 2, .mv (.t 9), none⟩])
  (.ret)),
  [.t 2]⟩

/- noria/noriaref04.High -/
def d_noriaref04_High : DFun := ⟨
  .seq (.ops false [⟨some 2, .mv (.c (.bool false)), none⟩])
  (.seq (.ops false [⟨some 3, .mv (.t 0), none⟩, ⟨some 4, .callP 45 [(.t 3), (.c (.int .u8 65)), (.c (.int .u8 90))], none⟩, ⟨some 2, .mv (.t 4), none⟩])
  (.ret)),
  [.t 2]⟩

/- noria/noriaref04.Once -/
def d_noriaref04_Once : DFun := ⟨
  .seq (.ops false [⟨some 2, .mv (.c (.bool false)), none⟩])
  (.seq (.seq (.ops false [⟨some 3, .mv (.c (.int .i64 0)), none⟩])
  (.block 0 (.loop [0, 3] (some 0) (.seq (.seq (.ops false [⟨some 5, .mv (.t 3), none⟩, ⟨some 6, .mv (.t 0), none⟩, ⟨some 7, .len (.t 6), none⟩, ⟨some 8, .bin .lss (.t 5) (.t 7), none⟩])
    (.cond (.t 8) (.skip)
     (.exit 0)))
    (.seq (.block 1 (.seq (.ops false [⟨some 4, .mv (.c (.int .i64 0)), none⟩])
     (.block 2 (.loop [0, 3, 4] (some 0) (.seq (.seq (.ops false [⟨some 11, .mv (.t 4), none⟩, ⟨some 12, .mv (.t 3), none⟩, ⟨some 13, .bin .lss (.t 11) (.t 12), none⟩])
       (.cond (.t 13) (.skip)
        (.exit 2)))
       (.seq (.block 3 (.seq (.ops true [⟨some 16, .mv (.t 0), none⟩, ⟨some 17, .mv (.t 4), none⟩, ⟨some 18, .iaddr 1 (.t 16) (.t 17), none⟩, ⟨some 19, .load none (.t 18), none⟩, ⟨some 20, .mv (.t 0), none⟩, ⟨some 21, .mv (.t 3), none⟩, ⟨some 22, .iaddr 1 (.t 20) (.t 21), none⟩, ⟨some 23, .load none (.t 22), none⟩, ⟨some 24, .bin .eql (.t 19) (.t 23), none⟩])
        (.cond (.t 24) (.seq (.ops false [⟨some 2, .mv (.c (.bool false)), none⟩])
         (.ret))
         (.skip))))
       (.ops false [⟨some 14, .mv (.t 4), none⟩, ⟨some 15, .bin .add (.t 14) (.c (.int .i64 1)), none⟩, ⟨some 4, .mv (.t 15), none⟩])))))))
    (.ops false [⟨some 9, .mv (.t 3), none⟩, ⟨some 10, .bin .add (.t 9) (.c (.int .i64 1)), none⟩, ⟨some 3, .mv (.t 10), none⟩]))))))
  (.seq (.ops false [⟨some 2, .mv (.c (.bool true)), none⟩])
  (.ret))),
  [.t 2]⟩

/- noria/face.Same$1 -/
def d_face_Same_1 : DFun := ⟨
  .seq (.ops false [⟨some 4, .box (.t 0), none⟩, ⟨some 5, .box (.t 1), none⟩, ⟨some 6, .mv (.c (.bool false)), none⟩])
  (.seq (.ops false [⟨some 7, .faddr 0 (.t 4), none⟩, ⟨some 8, .load none (.t 7), none⟩, ⟨some 9, .faddr 0 (.t 5), none⟩, ⟨some 10, .load none (.t 9), none⟩, ⟨some 11, .bin .eql (.t 8) (.t 10), none⟩, ⟨some 12, .mv (.t 11), none⟩, ⟨some 13, .faddr 0 (.t 2), some (12, true)⟩, ⟨some 14, .load none (.t 13), some (12, true)⟩, ⟨some 15, .faddr 1 (.t 4), some (12, true)⟩, ⟨some 16, .load (some 3) (.t 15), some (12, true)⟩, ⟨some 17, .faddr 0 (.t 3), some (12, true)⟩, ⟨some 18, .load none (.t 17), some (12, true)⟩, ⟨some 19, .faddr 1 (.t 5), some (12, true)⟩, ⟨some 20, .load (some 3) (.t 19), some (12, true)⟩, ⟨some 21, .callP 30 [(.t 14), (.t 16), (.t 18), (.t 20)], some (12, true)⟩, ⟨some 22, .pick (.t 12) (.t 21) (.c (.bool false)), none⟩, ⟨some 6, .mv (.t 22), none⟩])
  (.ret)),
  [.t 6]⟩

/- noria/ty.Alike -/
def d_ty_Alike : DFun := ⟨
  .seq (.ops false [⟨some 5, .bref (.t 1), none⟩, ⟨some 7, .bref (.t 3), none⟩, ⟨some 8, .mv (.c (.bool false)), none⟩])
  (.seq (.seq (.ops false [⟨some 11, .mv (.t 0), none⟩, ⟨some 12, .load (some 3) (.t 5), none⟩, ⟨some 13, .callP 47 [(.t 11), (.t 12)], none⟩, ⟨some 14, .un .not (.t 13), none⟩, ⟨some 15, .mv (.t 14), none⟩, ⟨some 16, .mv (.t 2), some (15, false)⟩, ⟨some 17, .load (some 3) (.t 7), some (15, false)⟩, ⟨some 18, .callP 47 [(.t 16), (.t 17)], some (15, false)⟩, ⟨some 19, .un .not (.t 18), some (15, false)⟩, ⟨some 20, .pick (.t 15) (.c (.bool true)) (.t 19), none⟩, ⟨some 21, .mv (.t 20), none⟩, ⟨some 22, .faddr 0 (.t 5), some (21, false)⟩, ⟨some 23, .load none (.t 22), some (21, false)⟩, ⟨some 24, .faddr 0 (.t 7), some (21, false)⟩, ⟨some 25, .load none (.t 24), some (21, false)⟩, ⟨some 26, .bin .neq (.t 23) (.t 25), some (21, false)⟩, ⟨some 27, .pick (.t 21) (.c (.bool true)) (.t 26), none⟩, ⟨some 28, .mv (.t 27), none⟩, ⟨some 29, .faddr 2 (.t 5), some (28, false)⟩, ⟨some 30, .load none (.t 29), some (28, false)⟩, ⟨some 31, .faddr 2 (.t 7), some (28, false)⟩, ⟨some 32, .load none (.t 31), some (28, false)⟩, ⟨some 33, .bin .neq (.t 30) (.t 32), some (28, false)⟩, ⟨some 34, .pick (.t 28) (.c (.bool true)) (.t 33), none⟩])
  (.cond (.t 34) (.seq (.ops false [⟨some 8, .mv (.c (.bool false)), none⟩])
   (.ret))
   (.skip)))
  (.seq (.seq (.ops false [⟨some 35, .faddr 0 (.t 5), none⟩, ⟨some 36, .load none (.t 35), none⟩, ⟨some 37, .bin .neq (.t 36) (.c (.int .i64 3)), none⟩])
  (.cond (.t 37) (.seq (.ops false [⟨some 8, .mv (.c (.bool true)), none⟩])
   (.ret))
   (.skip)))
  (.seq (.rsv (.rsv (.opsS [] [(0, ⟨some 38, .mv (.t 0), none⟩), (1, ⟨some 39, .im (.faddr 1 (.t 5)), none⟩), (2, ⟨some 40, .im (.load none (.t 39)), none⟩), (3, ⟨some 41, .im (.iaddr 2 (.t 38) (.t 40)), none⟩), (4, ⟨some 42, .im (.load (some 2) (.t 41)), none⟩), (5, ⟨some 43, .mv (.t 2), none⟩), (6, ⟨some 44, .im (.faddr 1 (.t 7)), none⟩), (7, ⟨some 45, .im (.load none (.t 44)), none⟩), (8, ⟨some 46, .im (.iaddr 2 (.t 43) (.t 45)), none⟩), (9, ⟨some 47, .im (.load (some 2) (.t 46)), none⟩), (10, ⟨some 9, .aa 0 [.str [], .nil], none⟩), (11, ⟨some 10, .aa 1 [.str [], .nil], none⟩), (12, ⟨none, .store 2 (.t 9) (.t 42), none⟩), (13, ⟨none, .store 2 (.t 10) (.t 47), none⟩)])))
  (.seq (.ops false [⟨some 48, .faddr 0 (.t 9), none⟩, ⟨some 49, .load none (.t 48), none⟩, ⟨some 50, .faddr 0 (.t 10), none⟩, ⟨some 51, .load none (.t 50), none⟩, ⟨some 52, .bin .eql (.t 49) (.t 51), none⟩, ⟨some 53, .mv (.t 52), none⟩, ⟨some 54, .faddr 1 (.t 9), some (53, true)⟩, ⟨some 55, .load none (.t 54), some (53, true)⟩, ⟨some 56, .faddr 1 (.t 10), some (53, true)⟩, ⟨some 57, .load none (.t 56), some (53, true)⟩, ⟨some 58, .callP 48 [(.t 55), (.t 57)], some (53, true)⟩, ⟨some 59, .pick (.t 53) (.t 58) (.c (.bool false)), none⟩, ⟨some 8, .mv (.t 59), none⟩])
  (.ret))))),
  [.t 8]⟩

/- slices.EqualFunc[[]noria/api.Port,[]noria/api.Port,noria/api.Port,noria/api.Port] -/
def d_slices_EqualFunc_api_Port_api_Port_api_Port_api_Port : DFun := ⟨
  .seq (.ops false [⟨some 6, .mv (.c (.bool false)), none⟩])
  (.seq (.seq (.ops false [⟨some 10, .mv (.t 0), none⟩, ⟨some 11, .len (.t 10), none⟩, ⟨some 12, .mv (.t 1), none⟩, ⟨some 13, .len (.t 12), none⟩, ⟨some 14, .bin .neq (.t 11) (.t 13), none⟩])
  (.cond (.t 14) (.seq (.ops false [⟨some 6, .mv (.c (.bool false)), none⟩])
   (.ret))
   (.skip)))
  (.seq (.seq (.ops false [⟨some 15, .mv (.t 0), none⟩, ⟨some 16, .len (.t 15), none⟩, ⟨some 17, .mv (.c (.int .i64 0)), none⟩])
  (.block 0 (.loop [1, 2, 15, 16, 17] (some 0) (.seq (.ops false [⟨some 18, .bin .lss (.t 17) (.t 16), none⟩])
    (.seq (.cond (.t 18) (.skip)
     (.exit 0))
    (.seq (.block 1 (.seq (.ops false [⟨some 19, .mv (.t 17), none⟩, ⟨some 20, .iaddr 4 (.t 15) (.t 17), none⟩, ⟨some 21, .load (some 4) (.t 20), none⟩, ⟨some 8, .alloc [.str [], .int .i64 0, .int .i64 0, .int .i64 0], none⟩, ⟨some 7, .mv (.t 19), none⟩, ⟨none, .store 4 (.t 8) (.t 21), none⟩])
     (.seq (.ops false [⟨some 22, .mv (.t 1), none⟩, ⟨some 23, .mv (.t 7), none⟩, ⟨some 24, .iaddr 4 (.t 22) (.t 23), none⟩, ⟨some 25, .load (some 4) (.t 24), none⟩, ⟨some 9, .alloc [.str [], .int .i64 0, .int .i64 0, .int .i64 0], none⟩, ⟨none, .store 4 (.t 9) (.t 25), none⟩])
     (.seq (.ops false [⟨some 26, .mv (.t 2), none⟩, ⟨some 27, .load (some 4) (.t 8), none⟩, ⟨some 28, .load (some 4) (.t 9), none⟩, ⟨some 29, .callvP (.t 26) [(.t 27), (.t 28)], none⟩, ⟨some 30, .un .not (.t 29), none⟩])
     (.cond (.t 30) (.seq (.ops false [⟨some 6, .mv (.c (.bool false)), none⟩])
      (.ret))
      (.skip))))))
    (.ops false [⟨some 31, .bin .add (.t 17) (.c (.int .i64 1)), none⟩, ⟨some 17, .mv (.t 31), none⟩])))))))
  (.seq (.ops false [⟨some 6, .mv (.c (.bool true)), none⟩])
  (.ret)))),
  [.t 6]⟩

/- noria/noriaref36.ports -/
def d_noriaref36_ports : DFun := ⟨
  .seq (.ops false [⟨some 8, .mv (.c (.bool false)), none⟩])
  (.seq (.seq (.ops false [⟨some 10, .mv (.t 1), none⟩, ⟨some 11, .len (.t 10), none⟩, ⟨some 12, .mv (.t 3), none⟩, ⟨some 13, .len (.t 12), none⟩, ⟨some 14, .bin .neq (.t 11) (.t 13), none⟩])
  (.cond (.t 14) (.seq (.ops false [⟨some 8, .mv (.c (.bool false)), none⟩])
   (.ret))
   (.skip)))
  (.seq (.seq (.ops false [⟨some 9, .mv (.c (.int .i64 0)), none⟩])
  (.block 0 (.loop [0, 1, 2, 3, 9] (some 0) (.seq (.seq (.ops false [⟨some 15, .mv (.t 9), none⟩, ⟨some 16, .mv (.t 1), none⟩, ⟨some 17, .len (.t 16), none⟩, ⟨some 18, .bin .lss (.t 15) (.t 17), none⟩])
    (.cond (.t 18) (.skip)
     (.exit 0)))
    (.seq (.block 1 (.seq (.ops true [⟨some 21, .mv (.t 1), none⟩, ⟨some 22, .mv (.t 9), none⟩, ⟨some 23, .iaddr 4 (.t 21) (.t 22), none⟩, ⟨some 24, .faddr 0 (.t 23), none⟩, ⟨some 25, .load none (.t 24), none⟩, ⟨some 26, .mv (.t 3), none⟩, ⟨some 27, .mv (.t 9), none⟩, ⟨some 28, .iaddr 4 (.t 26) (.t 27), none⟩, ⟨some 29, .faddr 0 (.t 28), none⟩, ⟨some 30, .load none (.t 29), none⟩, ⟨some 31, .bin .neq (.t 25) (.t 30), none⟩, ⟨some 32, .mv (.t 31), none⟩, ⟨some 33, .mv (.t 0), some (32, false)⟩, ⟨some 34, .mv (.t 1), some (32, false)⟩, ⟨some 35, .mv (.t 9), some (32, false)⟩, ⟨some 36, .iaddr 4 (.t 34) (.t 35), some (32, false)⟩, ⟨some 37, .faddr 1 (.t 36), some (32, false)⟩, ⟨some 38, .load (some 3) (.t 37), some (32, false)⟩, ⟨some 39, .mv (.t 2), some (32, false)⟩, ⟨some 40, .mv (.t 3), some (32, false)⟩, ⟨some 41, .mv (.t 9), some (32, false)⟩, ⟨some 42, .iaddr 4 (.t 40) (.t 41), some (32, false)⟩, ⟨some 43, .faddr 1 (.t 42), some (32, false)⟩, ⟨some 44, .load (some 3) (.t 43), some (32, false)⟩, ⟨some 45, .callP 49 [(.t 33), (.t 38), (.t 39), (.t 44)], some (32, false)⟩, ⟨some 46, .un .not (.t 45), some (32, false)⟩, ⟨some 47, .pick (.t 32) (.c (.bool true)) (.t 46), none⟩])
     (.cond (.t 47) (.seq (.ops false [⟨some 8, .mv (.c (.bool false)), none⟩])
      (.ret))
      (.skip))))
    (.ops false [⟨some 19, .mv (.t 9), none⟩, ⟨some 20, .bin .add (.t 19) (.c (.int .i64 1)), none⟩, ⟨some 9, .mv (.t 20), none⟩]))))))
  (.seq (.ops false [⟨some 8, .mv (.c (.bool true)), none⟩])
  (.ret)))),
  [.t 8]⟩

/- noria/tree.Cells -/
def d_tree_Cells : DFun := ⟨
  .seq (.ops false [⟨some 2, .mv (.c (.int .i64 0)), none⟩])
  (.seq (.ops false [⟨some 3, .mv (.c (.int .i64 0)), none⟩])
  (.seq (.seq (.ops false [⟨some 6, .mv (.t 0), none⟩, ⟨some 7, .len (.t 6), none⟩, ⟨some 8, .mv (.c (.int .i64 0)), none⟩])
  (.block 0 (.loop [3, 6, 7, 8] (some 0) (.seq (.ops false [⟨some 9, .bin .lss (.t 8) (.t 7), none⟩])
    (.seq (.cond (.t 9) (.skip)
     (.exit 0))
    (.seq (.block 1 (.seq (.ops false [⟨some 10, .iaddr 6 (.t 6) (.t 8), none⟩, ⟨some 11, .load (some 6) (.t 10), none⟩, ⟨some 5, .alloc [.str [], .int .i64 0, .int .i64 0, .int .i64 0, .int .i64 0, .nil], none⟩, ⟨none, .store 6 (.t 5) (.t 11), none⟩])
     (.ops false [⟨some 12, .mv (.t 3), none⟩, ⟨some 13, .faddr 1 (.t 5), none⟩, ⟨some 14, .load (some 3) (.t 13), none⟩, ⟨some 15, .callP 43 [(.t 14)], none⟩, ⟨some 16, .bin .add (.t 12) (.t 15), none⟩, ⟨some 3, .mv (.t 16), none⟩])))
    (.ops false [⟨some 17, .bin .add (.t 8) (.c (.int .i64 1)), none⟩, ⟨some 8, .mv (.t 17), none⟩])))))))
  (.seq (.ops false [⟨some 18, .mv (.t 3), none⟩, ⟨some 2, .mv (.t 18), none⟩])
  (.ret)))),
  [.t 2]⟩

/- noria/face.row -/
def d_face_row : DFun := ⟨
  .seq (.ops false [⟨some 4, .mv (.c (.nil)), none⟩])
  (.seq (.ops false [⟨some 6, .mv (.t 1), none⟩, ⟨some 7, .callH 50 [(.t 6)], none⟩, ⟨some 5, .mv (.t 7), none⟩])
  (.seq (.ops false [⟨some 8, .mv (.t 5), none⟩, ⟨some 9, .mv (.t 0), none⟩, ⟨some 10, .mv (.t 5), none⟩, ⟨some 11, .len (.t 10), none⟩, ⟨some 12, .bin .sub (.t 9) (.t 11), none⟩, ⟨some 13, .minmax true (.c (.int .i64 0)) (.t 12), none⟩, ⟨some 14, .appz 1 [.int .i64 0] (.t 8) (.t 13), none⟩, ⟨some 4, .mv (.t 14), none⟩])
  (.ret))),
  [.t 4]⟩

/- noria/gen.Shape -/
def d_gen_Shape : DFun := ⟨
  .seq (.ops false [⟨some 1, .box (.t 0), none⟩, ⟨some 2, .alloc [.nil, .nil, .int .i64 0, .int .i64 0], none⟩])
  (.seq (.ops false [⟨some 3, .alloc [.nil, .nil, .int .i64 0, .int .i64 0], none⟩])
  (.gown 3 1 1 (.gown 3 0 1 (.seq (.seq (.ops false [⟨some 13, .faddr 0 (.t 1), none⟩, ⟨some 14, .load none (.t 13), none⟩, ⟨some 15, .len (.t 14), none⟩, ⟨some 16, .mv (.c (.int .i64 0)), none⟩])
  (.block 0 (.loop [1, 2, 3, 14, 15, 16] (some 5) (.seq (.ops false [⟨some 17, .bin .lss (.t 16) (.t 15), none⟩])
    (.seq (.cond (.t 17) (.skip)
     (.exit 0))
    (.seq (.block 1 (.seq (.ops false [⟨some 18, .iaddr 2 (.t 14) (.t 16), none⟩, ⟨some 19, .load (some 2) (.t 18), none⟩, ⟨some 5, .alloc [.str [], .nil], none⟩, ⟨none, .store 2 (.t 5) (.t 19), none⟩])
     (.ops false [⟨some 20, .faddr 0 (.t 3), none⟩, ⟨some 21, .load none (.t 20), none⟩, ⟨some 22, .faddr 1 (.t 5), none⟩, ⟨some 23, .load none (.t 22), none⟩, ⟨some 24, .len (.t 23), none⟩, ⟨some 25, .bslice true [.int .i64 0] [(some (.t 24))], none⟩, ⟨some 26, .append 1 (.t 21) (.t 25), none⟩, ⟨some 27, .faddr 0 (.t 3), none⟩, ⟨none, .store 1 (.t 27) (.t 26), none⟩])))
    (.ops false [⟨some 28, .bin .add (.t 16) (.c (.int .i64 1)), none⟩, ⟨some 16, .mv (.t 28), none⟩])))))))
  (.seq (.ops false [⟨some 29, .mkfun 51 [(.t 3)], none⟩, ⟨some 6, .mv (.t 29), none⟩])
  (.seq (.seq (.ops false [⟨some 30, .faddr 3 (.t 1), none⟩, ⟨some 31, .load none (.t 30), none⟩, ⟨some 32, .len (.t 31), none⟩, ⟨some 33, .mv (.c (.int .i64 0)), none⟩])
  (.block 2 (.loop [1, 2, 3, 6, 31, 32, 33] (some 5) (.seq (.ops false [⟨some 34, .bin .lss (.t 33) (.t 32), none⟩])
    (.seq (.cond (.t 34) (.skip)
     (.exit 2))
    (.seq (.block 3 (.seq (.ops false [⟨some 35, .iaddr 6 (.t 31) (.t 33), none⟩, ⟨some 36, .load (some 6) (.t 35), none⟩, ⟨some 8, .alloc [.str [], .int .i64 0, .int .i64 0, .int .i64 0, .int .i64 0, .nil], none⟩, ⟨none, .store 6 (.t 8) (.t 36), none⟩])
     (.ops false [⟨some 37, .mv (.t 6), none⟩, ⟨some 38, .faddr 1 (.t 8), none⟩, ⟨some 39, .load (some 3) (.t 38), none⟩, ⟨some 40, .callvH (.t 37) [(.t 39)], none⟩])))
    (.ops false [⟨some 41, .bin .add (.t 33) (.c (.int .i64 1)), none⟩, ⟨some 33, .mv (.t 41), none⟩])))))))
  (.seq (.ops false [⟨some 42, .faddr 1 (.t 3), none⟩, ⟨some 43, .load none (.t 42), none⟩, ⟨some 44, .len (.t 43), none⟩, ⟨some 45, .faddr 2 (.t 3), none⟩, ⟨none, .store 1 (.t 45) (.t 44), none⟩])
  (.seq (.seq (.ops false [⟨some 46, .faddr 1 (.t 1), none⟩, ⟨some 47, .load none (.t 46), none⟩, ⟨some 48, .len (.t 47), none⟩, ⟨some 49, .mv (.c (.int .i64 0)), none⟩])
  (.block 4 (.loop [1, 2, 3, 6, 47, 48, 49] (some 5) (.seq (.ops false [⟨some 50, .bin .lss (.t 49) (.t 48), none⟩])
    (.seq (.cond (.t 50) (.skip)
     (.exit 4))
    (.seq (.block 5 (.seq (.ops false [⟨some 51, .iaddr 4 (.t 47) (.t 49), none⟩, ⟨some 52, .load (some 4) (.t 51), none⟩, ⟨some 10, .alloc [.str [], .int .i64 0, .int .i64 0, .int .i64 0], none⟩, ⟨none, .store 4 (.t 10) (.t 52), none⟩])
     (.ops false [⟨some 53, .mv (.t 6), none⟩, ⟨some 54, .faddr 1 (.t 10), none⟩, ⟨some 55, .load (some 3) (.t 54), none⟩, ⟨some 56, .callvH (.t 53) [(.t 55)], none⟩])))
    (.ops false [⟨some 57, .bin .add (.t 49) (.c (.int .i64 1)), none⟩, ⟨some 49, .mv (.t 57), none⟩])))))))
  (.seq (.ops false [⟨some 58, .faddr 1 (.t 3), none⟩, ⟨some 59, .load none (.t 58), none⟩, ⟨some 60, .len (.t 59), none⟩, ⟨some 61, .faddr 3 (.t 3), none⟩, ⟨none, .store 1 (.t 61) (.t 60), none⟩])
  (.seq (.seq (.ops false [⟨some 62, .faddr 2 (.t 1), none⟩, ⟨some 63, .load none (.t 62), none⟩, ⟨some 64, .len (.t 63), none⟩, ⟨some 65, .mv (.c (.int .i64 0)), none⟩])
  (.block 6 (.loop [1, 2, 3, 6, 63, 64, 65] (some 5) (.seq (.ops false [⟨some 66, .bin .lss (.t 65) (.t 64), none⟩])
    (.seq (.cond (.t 66) (.skip)
     (.exit 6))
    (.seq (.block 7 (.seq (.ops false [⟨some 67, .iaddr 4 (.t 63) (.t 65), none⟩, ⟨some 68, .load (some 4) (.t 67), none⟩, ⟨some 12, .alloc [.str [], .int .i64 0, .int .i64 0, .int .i64 0], none⟩, ⟨none, .store 4 (.t 12) (.t 68), none⟩])
     (.ops false [⟨some 69, .mv (.t 6), none⟩, ⟨some 70, .faddr 1 (.t 12), none⟩, ⟨some 71, .load (some 3) (.t 70), none⟩, ⟨some 72, .callvH (.t 69) [(.t 71)], none⟩])))
    (.ops false [⟨some 73, .bin .add (.t 65) (.c (.int .i64 1)), none⟩, ⟨some 65, .mv (.t 73), none⟩])))))))
  (.seq (.ops false [⟨some 74, .faddr 1 (.t 3), none⟩, ⟨some 75, .load none (.t 74), none⟩, ⟨some 76, .faddr 4 (.t 1), none⟩, ⟨some 77, .load none (.t 76), none⟩, ⟨some 78, .append 1 (.t 75) (.t 77), none⟩, ⟨some 79, .faddr 1 (.t 3), none⟩, ⟨none, .store 1 (.t 79) (.t 78), none⟩])
  (.seq (.ops false [⟨some 80, .load (some 4) (.t 3), none⟩, ⟨none, .store 4 (.t 2) (.t 80), none⟩])
  (.ret))))))))))))),
  [.cell 2 (some 4)]⟩

/- noria/noriaref27.Cells -/
def d_noriaref27_Cells : DFun := ⟨
  .seq (.ops false [⟨some 2, .mv (.c (.int .i64 0)), none⟩])
  (.seq (.ops false [⟨some 3, .mv (.c (.int .i64 0)), none⟩])
  (.seq (.seq (.ops false [⟨some 4, .mv (.c (.int .i64 0)), none⟩])
  (.block 0 (.loop [0, 3, 4] (some 0) (.seq (.seq (.ops false [⟨some 5, .mv (.t 4), none⟩, ⟨some 6, .mv (.t 0), none⟩, ⟨some 7, .len (.t 6), none⟩, ⟨some 8, .bin .lss (.t 5) (.t 7), none⟩])
    (.cond (.t 8) (.skip)
     (.exit 0)))
    (.seq (.block 1 (.ops false [⟨some 11, .mv (.t 3), none⟩, ⟨some 12, .mv (.t 0), none⟩, ⟨some 13, .mv (.t 4), none⟩, ⟨some 14, .iaddr 6 (.t 12) (.t 13), none⟩, ⟨some 15, .faddr 1 (.t 14), none⟩, ⟨some 16, .load (some 3) (.t 15), none⟩, ⟨some 17, .callP 44 [(.t 16)], none⟩, ⟨some 18, .bin .add (.t 11) (.t 17), none⟩, ⟨some 3, .mv (.t 18), none⟩]))
    (.ops false [⟨some 9, .mv (.t 4), none⟩, ⟨some 10, .bin .add (.t 9) (.c (.int .i64 1)), none⟩, ⟨some 4, .mv (.t 10), none⟩]))))))
  (.seq (.ops false [⟨some 19, .mv (.t 3), none⟩, ⟨some 2, .mv (.t 19), none⟩])
  (.ret)))),
  [.t 2]⟩

/- noria/noriaref32.Shape -/
def d_noriaref32_Shape : DFun := ⟨
  .seq (.ops false [⟨some 1, .box (.t 0), none⟩, ⟨some 2, .alloc [.nil, .nil, .int .i64 0, .int .i64 0], none⟩])
  (.seq (.ops false [⟨some 8, .build [.nil, .nil, .int .i64 0, .int .i64 0] [], none⟩, ⟨some 3, .alloc [.nil, .nil, .int .i64 0, .int .i64 0], none⟩, ⟨none, .store 4 (.t 3) (.t 8), none⟩])
  (.gown 3 1 1 (.gown 3 0 1 (.seq (.seq (.ops false [⟨some 4, .mv (.c (.int .i64 0)), none⟩])
  (.block 0 (.loop [1, 2, 3, 4] (some 5) (.seq (.seq (.ops false [⟨some 9, .mv (.t 4), none⟩, ⟨some 10, .faddr 0 (.t 1), none⟩, ⟨some 11, .load none (.t 10), none⟩, ⟨some 12, .len (.t 11), none⟩, ⟨some 13, .bin .lss (.t 9) (.t 12), none⟩])
    (.cond (.t 13) (.skip)
     (.exit 0)))
    (.seq (.block 1 (.ops true [⟨some 16, .faddr 0 (.t 3), none⟩, ⟨some 17, .load none (.t 16), none⟩, ⟨some 18, .faddr 0 (.t 1), none⟩, ⟨some 19, .load none (.t 18), none⟩, ⟨some 20, .mv (.t 4), none⟩, ⟨some 21, .iaddr 2 (.t 19) (.t 20), none⟩, ⟨some 22, .faddr 1 (.t 21), none⟩, ⟨some 23, .load none (.t 22), none⟩, ⟨some 24, .len (.t 23), none⟩, ⟨some 25, .bslice true [.int .i64 0] [(some (.t 24))], none⟩, ⟨some 26, .append 1 (.t 17) (.t 25), none⟩, ⟨some 27, .faddr 0 (.t 3), none⟩, ⟨none, .store 1 (.t 27) (.t 26), none⟩]))
    (.ops false [⟨some 14, .mv (.t 4), none⟩, ⟨some 15, .bin .add (.t 14) (.c (.int .i64 1)), none⟩, ⟨some 4, .mv (.t 15), none⟩]))))))
  (.seq (.seq (.ops false [⟨some 5, .mv (.c (.int .i64 0)), none⟩])
  (.block 2 (.loop [1, 2, 3, 5] (some 5) (.seq (.seq (.ops false [⟨some 28, .mv (.t 5), none⟩, ⟨some 29, .faddr 3 (.t 1), none⟩, ⟨some 30, .load none (.t 29), none⟩, ⟨some 31, .len (.t 30), none⟩, ⟨some 32, .bin .lss (.t 28) (.t 31), none⟩])
    (.cond (.t 32) (.skip)
     (.exit 2)))
    (.seq (.block 3 (.ops true [⟨some 35, .faddr 1 (.t 3), none⟩, ⟨some 36, .load none (.t 35), none⟩, ⟨some 37, .faddr 3 (.t 1), none⟩, ⟨some 38, .load none (.t 37), none⟩, ⟨some 39, .mv (.t 5), none⟩, ⟨some 40, .iaddr 6 (.t 38) (.t 39), none⟩, ⟨some 41, .faddr 1 (.t 40), none⟩, ⟨some 42, .load (some 3) (.t 41), none⟩, ⟨some 43, .callH 53 [(.t 36), (.t 42)], none⟩, ⟨some 44, .faddr 1 (.t 3), none⟩, ⟨none, .store 1 (.t 44) (.t 43), none⟩]))
    (.ops false [⟨some 33, .mv (.t 5), none⟩, ⟨some 34, .bin .add (.t 33) (.c (.int .i64 1)), none⟩, ⟨some 5, .mv (.t 34), none⟩]))))))
  (.seq (.ops false [⟨some 45, .faddr 1 (.t 3), none⟩, ⟨some 46, .load none (.t 45), none⟩, ⟨some 47, .len (.t 46), none⟩, ⟨some 48, .faddr 2 (.t 3), none⟩, ⟨none, .store 1 (.t 48) (.t 47), none⟩])
  (.seq (.seq (.ops false [⟨some 6, .mv (.c (.int .i64 0)), none⟩])
  (.block 4 (.loop [1, 2, 3, 6] (some 5) (.seq (.seq (.ops false [⟨some 49, .mv (.t 6), none⟩, ⟨some 50, .faddr 1 (.t 1), none⟩, ⟨some 51, .load none (.t 50), none⟩, ⟨some 52, .len (.t 51), none⟩, ⟨some 53, .bin .lss (.t 49) (.t 52), none⟩])
    (.cond (.t 53) (.skip)
     (.exit 4)))
    (.seq (.block 5 (.ops true [⟨some 56, .faddr 1 (.t 3), none⟩, ⟨some 57, .load none (.t 56), none⟩, ⟨some 58, .faddr 1 (.t 1), none⟩, ⟨some 59, .load none (.t 58), none⟩, ⟨some 60, .mv (.t 6), none⟩, ⟨some 61, .iaddr 4 (.t 59) (.t 60), none⟩, ⟨some 62, .faddr 1 (.t 61), none⟩, ⟨some 63, .load (some 3) (.t 62), none⟩, ⟨some 64, .callH 53 [(.t 57), (.t 63)], none⟩, ⟨some 65, .faddr 1 (.t 3), none⟩, ⟨none, .store 1 (.t 65) (.t 64), none⟩]))
    (.ops false [⟨some 54, .mv (.t 6), none⟩, ⟨some 55, .bin .add (.t 54) (.c (.int .i64 1)), none⟩, ⟨some 6, .mv (.t 55), none⟩]))))))
  (.seq (.ops false [⟨some 66, .faddr 1 (.t 3), none⟩, ⟨some 67, .load none (.t 66), none⟩, ⟨some 68, .len (.t 67), none⟩, ⟨some 69, .faddr 3 (.t 3), none⟩, ⟨none, .store 1 (.t 69) (.t 68), none⟩])
  (.seq (.seq (.ops false [⟨some 7, .mv (.c (.int .i64 0)), none⟩])
  (.block 6 (.loop [1, 2, 3, 7] (some 5) (.seq (.seq (.ops false [⟨some 70, .mv (.t 7), none⟩, ⟨some 71, .faddr 2 (.t 1), none⟩, ⟨some 72, .load none (.t 71), none⟩, ⟨some 73, .len (.t 72), none⟩, ⟨some 74, .bin .lss (.t 70) (.t 73), none⟩])
    (.cond (.t 74) (.skip)
     (.exit 6)))
    (.seq (.block 7 (.ops true [⟨some 77, .faddr 1 (.t 3), none⟩, ⟨some 78, .load none (.t 77), none⟩, ⟨some 79, .faddr 2 (.t 1), none⟩, ⟨some 80, .load none (.t 79), none⟩, ⟨some 81, .mv (.t 7), none⟩, ⟨some 82, .iaddr 4 (.t 80) (.t 81), none⟩, ⟨some 83, .faddr 1 (.t 82), none⟩, ⟨some 84, .load (some 3) (.t 83), none⟩, ⟨some 85, .callH 53 [(.t 78), (.t 84)], none⟩, ⟨some 86, .faddr 1 (.t 3), none⟩, ⟨none, .store 1 (.t 86) (.t 85), none⟩]))
    (.ops false [⟨some 75, .mv (.t 7), none⟩, ⟨some 76, .bin .add (.t 75) (.c (.int .i64 1)), none⟩, ⟨some 7, .mv (.t 76), none⟩]))))))
  (.seq (.ops false [⟨some 87, .faddr 1 (.t 3), none⟩, ⟨some 88, .load none (.t 87), none⟩, ⟨some 89, .faddr 4 (.t 1), none⟩, ⟨some 90, .load none (.t 89), none⟩, ⟨some 91, .append 1 (.t 88) (.t 90), none⟩, ⟨some 92, .faddr 1 (.t 3), none⟩, ⟨none, .store 1 (.t 92) (.t 91), none⟩])
  (.seq (.ops false [⟨some 93, .load (some 4) (.t 3), none⟩, ⟨none, .store 4 (.t 2) (.t 93), none⟩])
  (.ret)))))))))))),
  [.cell 2 (some 4)]⟩

/- noria/face.Ins$1 -/
def d_face_Ins_1 : DFun := ⟨
  .seq (.ops false [⟨some 3, .box (.t 0), none⟩, ⟨some 5, .mv (.c (.bool false)), none⟩])
  (.seq (.ops false [⟨some 6, .faddr 0 (.t 2), none⟩, ⟨some 7, .load none (.t 6), none⟩, ⟨some 8, .faddr 1 (.t 3), none⟩, ⟨some 9, .load (some 3) (.t 8), none⟩, ⟨some 10, .mv (.t 1), none⟩, ⟨some 11, .callP 39 [(.t 7), (.t 9), (.t 10)], none⟩, ⟨some 5, .mv (.t 11), none⟩])
  (.ret)),
  [.t 5]⟩

/- noria/val.Right -/
def d_val_Right : DFun := ⟨
  .seq (.ops false [⟨some 3, .box (.t 0), none⟩, ⟨some 4, .box (.t 1), none⟩, ⟨some 6, .mv (.c (.bool false)), none⟩])
  (.seq (.ops false [⟨some 8, .mkfun 54 [(.t 3), (.t 4)], none⟩, ⟨some 7, .mv (.t 8), none⟩])
  (.seq (.ops false [⟨some 9, .load none (.t 3), none⟩, ⟨some 10, .load (some 3) (.t 4), none⟩, ⟨some 11, .callP 47 [(.t 9), (.t 10)], none⟩, ⟨some 12, .mv (.t 11), none⟩, ⟨some 13, .mv (.t 2), some (12, true)⟩, ⟨some 14, .len (.t 13), some (12, true)⟩, ⟨some 15, .load (some 3) (.t 4), some (12, true)⟩, ⟨some 16, .callP 43 [(.t 15)], some (12, true)⟩, ⟨some 17, .bin .eql (.t 14) (.t 16), some (12, true)⟩, ⟨some 18, .pick (.t 12) (.t 17) (.c (.bool false)), none⟩, ⟨some 19, .mv (.t 18), none⟩, ⟨some 20, .mv (.t 2), some (19, true)⟩, ⟨some 21, .mv (.t 7), some (19, true)⟩, ⟨some 22, .callP 56 [(.t 20), (.t 21)], some (19, true)⟩, ⟨some 23, .un .not (.t 22), some (19, true)⟩, ⟨some 24, .pick (.t 19) (.t 23) (.c (.bool false)), none⟩, ⟨some 6, .mv (.t 24), none⟩])
  (.ret))),
  [.t 6]⟩

/- slices.EqualFunc[[]noria/api.Port,[][]int64,noria/api.Port,[]int64] -/
def d_slices_EqualFunc_api_Port_int64_api_Port_int64 : DFun := ⟨
  .seq (.ops false [⟨some 6, .mv (.c (.bool false)), none⟩])
  (.seq (.seq (.ops false [⟨some 10, .mv (.t 0), none⟩, ⟨some 11, .len (.t 10), none⟩, ⟨some 12, .mv (.t 1), none⟩, ⟨some 13, .len (.t 12), none⟩, ⟨some 14, .bin .neq (.t 11) (.t 13), none⟩])
  (.cond (.t 14) (.seq (.ops false [⟨some 6, .mv (.c (.bool false)), none⟩])
   (.ret))
   (.skip)))
  (.seq (.seq (.ops false [⟨some 15, .mv (.t 0), none⟩, ⟨some 16, .len (.t 15), none⟩, ⟨some 17, .mv (.c (.int .i64 0)), none⟩])
  (.block 0 (.loop [1, 2, 15, 16, 17] (some 0) (.seq (.ops false [⟨some 18, .bin .lss (.t 17) (.t 16), none⟩])
    (.seq (.cond (.t 18) (.skip)
     (.exit 0))
    (.seq (.block 1 (.seq (.ops false [⟨some 19, .mv (.t 17), none⟩, ⟨some 20, .iaddr 4 (.t 15) (.t 17), none⟩, ⟨some 21, .load (some 4) (.t 20), none⟩, ⟨some 8, .alloc [.str [], .int .i64 0, .int .i64 0, .int .i64 0], none⟩, ⟨some 7, .mv (.t 19), none⟩, ⟨none, .store 4 (.t 8) (.t 21), none⟩])
     (.seq (.ops false [⟨some 22, .mv (.t 1), none⟩, ⟨some 23, .mv (.t 7), none⟩, ⟨some 24, .iaddr 1 (.t 22) (.t 23), none⟩, ⟨some 25, .load none (.t 24), none⟩, ⟨some 9, .mv (.t 25), none⟩])
     (.seq (.ops false [⟨some 26, .mv (.t 2), none⟩, ⟨some 27, .load (some 4) (.t 8), none⟩, ⟨some 28, .mv (.t 9), none⟩, ⟨some 29, .callvP (.t 26) [(.t 27), (.t 28)], none⟩, ⟨some 30, .un .not (.t 29), none⟩])
     (.cond (.t 30) (.seq (.ops false [⟨some 6, .mv (.c (.bool false)), none⟩])
      (.ret))
      (.skip))))))
    (.ops false [⟨some 31, .bin .add (.t 17) (.c (.int .i64 1)), none⟩, ⟨some 17, .mv (.t 31), none⟩])))))))
  (.seq (.ops false [⟨some 6, .mv (.c (.bool true)), none⟩])
  (.ret)))),
  [.t 6]⟩

/- noria/noriaref06.Right -/
def d_noriaref06_Right : DFun := ⟨
  .seq (.ops false [⟨some 4, .box (.t 1), none⟩, ⟨some 6, .mv (.c (.bool false)), none⟩])
  (.seq (.seq (.ops false [⟨some 8, .mv (.t 0), none⟩, ⟨some 9, .load (some 3) (.t 4), none⟩, ⟨some 10, .callP 57 [(.t 8), (.t 9)], none⟩, ⟨some 11, .un .not (.t 10), none⟩, ⟨some 12, .mv (.t 11), none⟩, ⟨some 13, .mv (.t 2), some (12, false)⟩, ⟨some 14, .len (.t 13), some (12, false)⟩, ⟨some 15, .load (some 3) (.t 4), some (12, false)⟩, ⟨some 16, .callP 44 [(.t 15)], some (12, false)⟩, ⟨some 17, .bin .neq (.t 14) (.t 16), some (12, false)⟩, ⟨some 18, .pick (.t 12) (.c (.bool true)) (.t 17), none⟩])
  (.cond (.t 18) (.seq (.ops false [⟨some 6, .mv (.c (.bool false)), none⟩])
   (.ret))
   (.skip)))
  (.seq (.seq (.ops false [⟨some 7, .mv (.c (.int .i64 0)), none⟩])
  (.block 0 (.loop [0, 2, 4, 7] (some 1) (.seq (.seq (.ops false [⟨some 19, .mv (.t 7), none⟩, ⟨some 20, .mv (.t 2), none⟩, ⟨some 21, .len (.t 20), none⟩, ⟨some 22, .bin .lss (.t 19) (.t 21), none⟩])
    (.cond (.t 22) (.skip)
     (.exit 0)))
    (.seq (.block 1 (.seq (.ops true [⟨some 25, .mv (.t 0), none⟩, ⟨some 26, .load (some 3) (.t 4), none⟩, ⟨some 27, .mv (.t 2), none⟩, ⟨some 28, .mv (.t 7), none⟩, ⟨some 29, .iaddr 1 (.t 27) (.t 28), none⟩, ⟨some 30, .load none (.t 29), none⟩, ⟨some 31, .callP 58 [(.t 25), (.t 26), (.t 30)], none⟩, ⟨some 32, .un .not (.t 31), none⟩])
     (.cond (.t 32) (.seq (.ops false [⟨some 6, .mv (.c (.bool false)), none⟩])
      (.ret))
      (.skip))))
    (.ops false [⟨some 23, .mv (.t 7), none⟩, ⟨some 24, .bin .add (.t 23) (.c (.int .i64 1)), none⟩, ⟨some 7, .mv (.t 24), none⟩]))))))
  (.seq (.ops false [⟨some 6, .mv (.c (.bool true)), none⟩])
  (.ret)))),
  [.t 6]⟩

/- slices.Clone[[]int64,int64] -/
def d_slices_Clone_int64_int64 : DFun := ⟨
  .seq (.ops false [⟨some 2, .mv (.c (.nil)), none⟩])
  (.seq (.seq (.ops false [⟨some 3, .mv (.t 0), none⟩, ⟨some 4, .snil false (.t 3), none⟩])
  (.cond (.t 4) (.seq (.ops false [⟨some 2, .mkown 1 (.c (.nil)), none⟩])
   (.ret))
   (.skip)))
  (.seq (.ops false [⟨some 5, .bslice false [.int .i64 0] [], none⟩, ⟨some 6, .mv (.t 0), none⟩, ⟨some 7, .append 1 (.t 5) (.t 6), none⟩, ⟨some 2, .mv (.t 7), none⟩])
  (.ret))),
  [.t 2]⟩

/- noria/ty.Cells -/
def d_ty_Cells : DFun := ⟨
  .seq (.ops false [⟨some 1, .box (.t 0), none⟩, ⟨some 2, .mv (.c (.int .i64 0)), none⟩])
  (.seq (.ops false [⟨some 3, .faddr 2 (.t 1), none⟩, ⟨some 4, .load none (.t 3), none⟩, ⟨some 5, .minmax true (.t 4) (.c (.int .i64 1)), none⟩, ⟨some 6, .minmax false (.t 5) (.c (.int .i64 8)), none⟩, ⟨some 2, .mv (.t 6), none⟩])
  (.ret)),
  [.t 2]⟩

/- noria/noriaref05.Cells -/
def d_noriaref05_Cells : DFun := ⟨
  .seq (.ops false [⟨some 1, .box (.t 0), none⟩, ⟨some 2, .mv (.c (.int .i64 0)), none⟩])
  (.seq (.seq (.ops false [⟨some 3, .faddr 2 (.t 1), none⟩, ⟨some 4, .load none (.t 3), none⟩, ⟨some 5, .bin .lss (.t 4) (.c (.int .i64 1)), none⟩])
  (.cond (.t 5) (.seq (.ops false [⟨some 2, .mv (.c (.int .i64 1)), none⟩])
   (.ret))
   (.skip)))
  (.seq (.seq (.ops false [⟨some 6, .faddr 2 (.t 1), none⟩, ⟨some 7, .load none (.t 6), none⟩, ⟨some 8, .bin .gtr (.t 7) (.c (.int .i64 8)), none⟩])
  (.cond (.t 8) (.seq (.ops false [⟨some 2, .mv (.c (.int .i64 8)), none⟩])
   (.ret))
   (.skip)))
  (.seq (.ops false [⟨some 9, .faddr 2 (.t 1), none⟩, ⟨some 10, .load none (.t 9), none⟩, ⟨some 2, .mv (.t 10), none⟩])
  (.ret)))),
  [.t 2]⟩

/- noria/noriaref04.name -/
def d_noriaref04_name : DFun := ⟨
  .seq (.ops false [⟨some 6, .mv (.c (.bool false)), none⟩])
  (.seq (.seq (.ops false [⟨some 8, .mv (.t 0), none⟩, ⟨some 9, .lenS (.t 8), none⟩, ⟨some 10, .bin .lss (.t 9) (.c (.int .i64 1)), none⟩, ⟨some 11, .mv (.t 10), none⟩, ⟨some 12, .mv (.t 0), some (11, false)⟩, ⟨some 13, .lenS (.t 12), some (11, false)⟩, ⟨some 14, .bin .gtr (.t 13) (.c (.int .i64 12)), some (11, false)⟩, ⟨some 15, .pick (.t 11) (.c (.bool true)) (.t 14), none⟩, ⟨some 16, .mv (.t 15), none⟩, ⟨some 17, .mv (.t 0), some (16, false)⟩, ⟨some 18, .index (.t 17) (.c (.int .i64 0)), some (16, false)⟩, ⟨some 19, .mv (.t 1), some (16, false)⟩, ⟨some 20, .mv (.t 2), some (16, false)⟩, ⟨some 21, .callP 59 [(.t 18), (.t 19), (.t 20)], some (16, false)⟩, ⟨some 22, .un .not (.t 21), some (16, false)⟩, ⟨some 23, .pick (.t 16) (.c (.bool true)) (.t 22), none⟩])
  (.cond (.t 23) (.seq (.ops false [⟨some 6, .mv (.c (.bool false)), none⟩])
   (.ret))
   (.skip)))
  (.seq (.seq (.ops false [⟨some 7, .mv (.c (.int .i64 0)), none⟩])
  (.block 0 (.loop [0, 7] (some 0) (.seq (.seq (.ops false [⟨some 24, .mv (.t 7), none⟩, ⟨some 25, .mv (.t 0), none⟩, ⟨some 26, .lenS (.t 25), none⟩, ⟨some 27, .bin .lss (.t 24) (.t 26), none⟩])
    (.cond (.t 27) (.skip)
     (.exit 0)))
    (.seq (.block 1 (.seq (.ops false [⟨some 30, .mv (.t 0), none⟩, ⟨some 31, .mv (.t 7), none⟩, ⟨some 32, .index (.t 30) (.t 31), none⟩, ⟨some 33, .callP 59 [(.t 32), (.c (.int .u8 97)), (.c (.int .u8 122))], none⟩, ⟨some 34, .un .not (.t 33), none⟩, ⟨some 35, .mv (.t 34), none⟩, ⟨some 36, .mv (.t 0), some (35, true)⟩, ⟨some 37, .mv (.t 7), some (35, true)⟩, ⟨some 38, .index (.t 36) (.t 37), some (35, true)⟩, ⟨some 39, .callP 59 [(.t 38), (.c (.int .u8 65)), (.c (.int .u8 90))], some (35, true)⟩, ⟨some 40, .un .not (.t 39), some (35, true)⟩, ⟨some 41, .pick (.t 35) (.t 40) (.c (.bool false)), none⟩, ⟨some 42, .mv (.t 41), none⟩, ⟨some 43, .mv (.t 0), some (42, true)⟩, ⟨some 44, .mv (.t 7), some (42, true)⟩, ⟨some 45, .index (.t 43) (.t 44), some (42, true)⟩, ⟨some 46, .callP 59 [(.t 45), (.c (.int .u8 48)), (.c (.int .u8 57))], some (42, true)⟩, ⟨some 47, .un .not (.t 46), some (42, true)⟩, ⟨some 48, .pick (.t 42) (.t 47) (.c (.bool false)), none⟩, ⟨some 49, .mv (.t 48), none⟩, ⟨some 50, .mv (.t 0), some (49, true)⟩, ⟨some 51, .mv (.t 7), some (49, true)⟩, ⟨some 52, .index (.t 50) (.t 51), some (49, true)⟩, ⟨some 53, .bin .neq (.t 52) (.c (.int .u8 95)), some (49, true)⟩, ⟨some 54, .pick (.t 49) (.t 53) (.c (.bool false)), none⟩])
     (.cond (.t 54) (.seq (.ops false [⟨some 6, .mv (.c (.bool false)), none⟩])
      (.ret))
      (.skip))))
    (.ops false [⟨some 28, .mv (.t 7), none⟩, ⟨some 29, .bin .add (.t 28) (.c (.int .i64 1)), none⟩, ⟨some 7, .mv (.t 29), none⟩]))))))
  (.seq (.ops false [⟨some 6, .mv (.c (.bool true)), none⟩])
  (.ret)))),
  [.t 6]⟩

/- noria/noriaref04.Word -/
def d_noriaref04_Word : DFun := ⟨
  .seq (.ops false [⟨some 2, .mv (.c (.bool false)), none⟩])
  (.seq (.ops false [⟨some 5, .callP 60 [], none⟩, ⟨some 3, .mv (.t 5), none⟩])
  (.seq (.seq (.ops false [⟨some 4, .mv (.c (.int .i64 0)), none⟩])
  (.block 0 (.loop [0, 3, 4] (some 0) (.seq (.seq (.ops false [⟨some 6, .mv (.t 4), none⟩, ⟨some 7, .mv (.t 3), none⟩, ⟨some 8, .len (.t 7), none⟩, ⟨some 9, .bin .lss (.t 6) (.t 8), none⟩])
    (.cond (.t 9) (.skip)
     (.exit 0)))
    (.seq (.block 1 (.seq (.ops false [⟨some 12, .mv (.t 3), none⟩, ⟨some 13, .mv (.t 4), none⟩, ⟨some 14, .iaddr 1 (.t 12) (.t 13), none⟩, ⟨some 15, .load none (.t 14), none⟩, ⟨some 16, .mv (.t 0), none⟩, ⟨some 17, .bin .eql (.t 15) (.t 16), none⟩])
     (.cond (.t 17) (.seq (.ops false [⟨some 2, .mv (.c (.bool true)), none⟩])
      (.ret))
      (.skip))))
    (.ops false [⟨some 10, .mv (.t 4), none⟩, ⟨some 11, .bin .add (.t 10) (.c (.int .i64 1)), none⟩, ⟨some 4, .mv (.t 11), none⟩]))))))
  (.seq (.ops false [⟨some 2, .mv (.c (.bool false)), none⟩])
  (.ret)))),
  [.t 2]⟩

/- noria/ty.Right -/
def d_ty_Right : DFun := ⟨
  .seq (.ops false [⟨some 3, .box (.t 1), none⟩, ⟨some 4, .mv (.c (.bool false)), none⟩])
  (.seq (.seq (.ops false [⟨some 5, .faddr 2 (.t 3), none⟩, ⟨some 6, .load none (.t 5), none⟩, ⟨some 7, .bin .lss (.t 6) (.c (.int .i64 0)), none⟩, ⟨some 8, .mv (.t 7), none⟩, ⟨some 9, .faddr 2 (.t 3), some (8, false)⟩, ⟨some 10, .load none (.t 9), some (8, false)⟩, ⟨some 11, .bin .gtr (.t 10) (.c (.int .i64 8)), some (8, false)⟩, ⟨some 12, .pick (.t 8) (.c (.bool true)) (.t 11), none⟩])
  (.cond (.t 12) (.seq (.ops false [⟨some 4, .mv (.c (.bool false)), none⟩])
   (.ret))
   (.skip)))
  (.seq (.seq (.ops false [⟨some 13, .faddr 0 (.t 3), none⟩, ⟨some 14, .load none (.t 13), none⟩])
  (.block 0 (.seq (.seq (.ops false [⟨some 16, .bin .eql (.t 14) (.c (.int .i64 1)), none⟩, ⟨some 15, .mv (.t 16), none⟩])
   (.cond (.t 15) (.skip)
    (.ops false [⟨some 17, .bin .eql (.t 14) (.c (.int .i64 2)), none⟩, ⟨some 15, .mv (.t 17), none⟩])))
   (.cond (.t 15) (.seq (.ops false [⟨some 18, .faddr 1 (.t 3), none⟩, ⟨some 19, .load none (.t 18), none⟩, ⟨some 20, .bin .eql (.t 19) (.c (.int .i64 0)), none⟩, ⟨some 4, .mv (.t 20), none⟩])
    (.ret))
    (.seq (.ops false [⟨some 22, .bin .eql (.t 14) (.c (.int .i64 3)), none⟩, ⟨some 21, .mv (.t 22), none⟩])
    (.cond (.t 21) (.seq (.ops false [⟨some 23, .faddr 1 (.t 3), none⟩, ⟨some 24, .load none (.t 23), none⟩, ⟨some 25, .bin .geq (.t 24) (.c (.int .i64 0)), none⟩, ⟨some 26, .mv (.t 25), none⟩, ⟨some 27, .faddr 1 (.t 3), some (26, true)⟩, ⟨some 28, .load none (.t 27), some (26, true)⟩, ⟨some 29, .mv (.t 0), some (26, true)⟩, ⟨some 30, .len (.t 29), some (26, true)⟩, ⟨some 31, .bin .lss (.t 28) (.t 30), some (26, true)⟩, ⟨some 32, .pick (.t 26) (.t 31) (.c (.bool false)), none⟩, ⟨some 4, .mv (.t 32), none⟩])
     (.ret))
     (.skip)))))))
  (.seq (.ops false [⟨some 4, .mv (.c (.bool false)), none⟩])
  (.ret)))),
  [.t 4]⟩

/- slices.Equal[[]string,string] -/
def d_slices_Equal_string_string : DFun := ⟨
  .seq (.ops false [⟨some 4, .mv (.c (.bool false)), none⟩])
  (.seq (.seq (.ops false [⟨some 6, .mv (.t 0), none⟩, ⟨some 7, .len (.t 6), none⟩, ⟨some 8, .mv (.t 1), none⟩, ⟨some 9, .len (.t 8), none⟩, ⟨some 10, .bin .neq (.t 7) (.t 9), none⟩])
  (.cond (.t 10) (.seq (.ops false [⟨some 4, .mv (.c (.bool false)), none⟩])
   (.ret))
   (.skip)))
  (.seq (.seq (.ops false [⟨some 11, .mv (.t 0), none⟩, ⟨some 12, .len (.t 11), none⟩, ⟨some 13, .mv (.c (.int .i64 0)), none⟩])
  (.block 0 (.loop [0, 1, 12, 13] (some 0) (.seq (.ops false [⟨some 14, .bin .lss (.t 13) (.t 12), none⟩])
    (.seq (.cond (.t 14) (.skip)
     (.exit 0))
    (.seq (.block 1 (.seq (.ops false [⟨some 15, .mv (.t 13), none⟩, ⟨some 5, .mv (.t 15), none⟩])
     (.seq (.ops true [⟨some 16, .mv (.t 0), none⟩, ⟨some 17, .mv (.t 5), none⟩, ⟨some 18, .iaddr 1 (.t 16) (.t 17), none⟩, ⟨some 19, .load none (.t 18), none⟩, ⟨some 20, .mv (.t 1), none⟩, ⟨some 21, .mv (.t 5), none⟩, ⟨some 22, .iaddr 1 (.t 20) (.t 21), none⟩, ⟨some 23, .load none (.t 22), none⟩, ⟨some 24, .bin .neq (.t 19) (.t 23), none⟩])
     (.cond (.t 24) (.seq (.ops false [⟨some 4, .mv (.c (.bool false)), none⟩])
      (.ret))
      (.skip)))))
    (.ops false [⟨some 25, .bin .add (.t 13) (.c (.int .i64 1)), none⟩, ⟨some 13, .mv (.t 25), none⟩])))))))
  (.seq (.ops false [⟨some 4, .mv (.c (.bool true)), none⟩])
  (.ret)))),
  [.t 4]⟩

/- noria/noriaref05.Alike -/
def d_noriaref05_Alike : DFun := ⟨
  .seq (.ops false [⟨some 5, .box (.t 1), none⟩, ⟨some 7, .box (.t 3), none⟩, ⟨some 8, .mv (.c (.bool false)), none⟩])
  (.seq (.seq (.ops false [⟨some 9, .mv (.t 0), none⟩, ⟨some 10, .load (some 3) (.t 5), none⟩, ⟨some 11, .callP 57 [(.t 9), (.t 10)], none⟩, ⟨some 12, .un .not (.t 11), none⟩, ⟨some 13, .mv (.t 12), none⟩, ⟨some 14, .mv (.t 2), some (13, false)⟩, ⟨some 15, .load (some 3) (.t 7), some (13, false)⟩, ⟨some 16, .callP 57 [(.t 14), (.t 15)], some (13, false)⟩, ⟨some 17, .un .not (.t 16), some (13, false)⟩, ⟨some 18, .pick (.t 13) (.c (.bool true)) (.t 17), none⟩, ⟨some 19, .mv (.t 18), none⟩, ⟨some 20, .faddr 0 (.t 5), some (19, false)⟩, ⟨some 21, .load none (.t 20), some (19, false)⟩, ⟨some 22, .faddr 0 (.t 7), some (19, false)⟩, ⟨some 23, .load none (.t 22), some (19, false)⟩, ⟨some 24, .bin .neq (.t 21) (.t 23), some (19, false)⟩, ⟨some 25, .pick (.t 19) (.c (.bool true)) (.t 24), none⟩, ⟨some 26, .mv (.t 25), none⟩, ⟨some 27, .faddr 2 (.t 5), some (26, false)⟩, ⟨some 28, .load none (.t 27), some (26, false)⟩, ⟨some 29, .faddr 2 (.t 7), some (26, false)⟩, ⟨some 30, .load none (.t 29), some (26, false)⟩, ⟨some 31, .bin .neq (.t 28) (.t 30), some (26, false)⟩, ⟨some 32, .pick (.t 26) (.c (.bool true)) (.t 31), none⟩])
  (.cond (.t 32) (.seq (.ops false [⟨some 8, .mv (.c (.bool false)), none⟩])
   (.ret))
   (.skip)))
  (.seq (.ops true [⟨some 33, .faddr 0 (.t 5), none⟩, ⟨some 34, .load none (.t 33), none⟩, ⟨some 35, .bin .neq (.t 34) (.c (.int .i64 3)), none⟩, ⟨some 36, .mv (.t 35), none⟩, ⟨some 37, .mv (.t 0), some (36, false)⟩, ⟨some 38, .faddr 1 (.t 5), some (36, false)⟩, ⟨some 39, .load none (.t 38), some (36, false)⟩, ⟨some 40, .iaddr 2 (.t 37) (.t 39), some (36, false)⟩, ⟨some 41, .faddr 0 (.t 40), some (36, false)⟩, ⟨some 42, .load none (.t 41), some (36, false)⟩, ⟨some 43, .mv (.t 2), some (36, false)⟩, ⟨some 44, .faddr 1 (.t 7), some (36, false)⟩, ⟨some 45, .load none (.t 44), some (36, false)⟩, ⟨some 46, .iaddr 2 (.t 43) (.t 45), some (36, false)⟩, ⟨some 47, .faddr 0 (.t 46), some (36, false)⟩, ⟨some 48, .load none (.t 47), some (36, false)⟩, ⟨some 49, .bin .eql (.t 42) (.t 48), some (36, false)⟩, ⟨some 50, .mv (.t 49), some (36, false)⟩, ⟨some 51, .mv (.t 0), some (50, true)⟩, ⟨some 52, .faddr 1 (.t 5), some (50, true)⟩, ⟨some 53, .load none (.t 52), some (50, true)⟩, ⟨some 54, .iaddr 2 (.t 51) (.t 53), some (50, true)⟩, ⟨some 55, .faddr 1 (.t 54), some (50, true)⟩, ⟨some 56, .load none (.t 55), some (50, true)⟩, ⟨some 57, .mv (.t 2), some (50, true)⟩, ⟨some 58, .faddr 1 (.t 7), some (50, true)⟩, ⟨some 59, .load none (.t 58), some (50, true)⟩, ⟨some 60, .iaddr 2 (.t 57) (.t 59), some (50, true)⟩, ⟨some 61, .faddr 1 (.t 60), some (50, true)⟩, ⟨some 62, .load none (.t 61), some (50, true)⟩, ⟨some 63, .callP 61 [(.t 56), (.t 62)], some (50, true)⟩, ⟨some 64, .pick (.t 50) (.t 63) (.c (.bool false)), some (36, false)⟩, ⟨some 65, .pick (.t 36) (.c (.bool true)) (.t 64), none⟩, ⟨some 8, .mv (.t 65), none⟩])
  (.ret))),
  [.t 8]⟩

/- slices.Concat[[]int64,int64] -/
def d_slices_Concat_int64_int64 : DFun := ⟨
  .seq (.ops false [⟨some 2, .mv (.c (.nil)), none⟩])
  (.seq (.ops false [⟨some 3, .mv (.c (.int .i64 0)), none⟩])
  (.seq (.seq (.ops false [⟨some 9, .mv (.t 0), none⟩, ⟨some 10, .len (.t 9), none⟩, ⟨some 11, .mv (.c (.int .i64 0)), none⟩])
  (.block 0 (.loop [0, 3, 9, 10, 11] none (.seq (.ops false [⟨some 12, .bin .lss (.t 11) (.t 10), none⟩])
    (.seq (.cond (.t 12) (.skip)
     (.exit 0))
    (.seq (.block 1 (.seq (.ops false [⟨some 13, .iaddr 1 (.t 9) (.t 11), none⟩, ⟨some 14, .load none (.t 13), none⟩, ⟨some 5, .mv (.t 14), none⟩])
     (.seq (.ops false [⟨some 15, .mv (.t 3), none⟩, ⟨some 16, .mv (.t 5), none⟩, ⟨some 17, .len (.t 16), none⟩, ⟨some 18, .bin .add (.t 15) (.t 17), none⟩, ⟨some 3, .mv (.t 18), none⟩])
     (.seq (.ops false [⟨some 19, .mv (.t 3), none⟩, ⟨some 20, .bin .lss (.t 19) (.c (.int .i64 0)), none⟩])
     (.cond (.t 20) (.ops false [⟨some 21, .bad, none⟩, ⟨none, .bad, none⟩])
      (.skip))))))
    (.ops false [⟨some 22, .bin .add (.t 11) (.c (.int .i64 1)), none⟩, ⟨some 11, .mv (.t 22), none⟩])))))))
  (.seq (.ops false [⟨some 23, .mv (.t 3), none⟩, ⟨some 24, .callH 62 [(.c (.nil)), (.t 23)], none⟩, ⟨some 6, .mv (.t 24), none⟩])
  (.seq (.seq (.ops false [⟨some 25, .mv (.t 0), none⟩, ⟨some 26, .len (.t 25), none⟩, ⟨some 27, .mv (.c (.int .i64 0)), none⟩])
  (.block 2 (.loop [6, 25, 26, 27] none (.seq (.ops false [⟨some 28, .bin .lss (.t 27) (.t 26), none⟩])
    (.seq (.cond (.t 28) (.skip)
     (.exit 2))
    (.seq (.block 3 (.seq (.ops false [⟨some 29, .iaddr 1 (.t 25) (.t 27), none⟩, ⟨some 30, .load none (.t 29), none⟩, ⟨some 8, .mv (.t 30), none⟩])
     (.ops false [⟨some 31, .mv (.t 6), none⟩, ⟨some 32, .mv (.t 8), none⟩, ⟨some 33, .append 1 (.t 31) (.t 32), none⟩, ⟨some 6, .mv (.t 33), none⟩])))
    (.ops false [⟨some 34, .bin .add (.t 27) (.c (.int .i64 1)), none⟩, ⟨some 27, .mv (.t 34), none⟩])))))))
  (.seq (.ops false [⟨some 35, .mv (.t 6), none⟩, ⟨some 2, .mv (.t 35), none⟩])
  (.ret)))))),
  [.t 2]⟩

/- noria/gen.Shape$1 -/
def d_gen_Shape_1 : DFun := ⟨
  .seq (.ops false [⟨some 2, .box (.t 0), none⟩])
  (.seq (.ops false [⟨some 3, .load (some 3) (.t 2), none⟩, ⟨some 4, .callP 43 [(.t 3)], none⟩, ⟨some 5, .mv (.c (.int .i64 0)), none⟩])
  (.block 0 (.loop [1, 2, 4, 5] none (.seq (.ops false [⟨some 6, .bin .lss (.t 5) (.t 4), none⟩])
    (.seq (.cond (.t 6) (.skip)
     (.exit 0))
    (.seq (.block 1 (.ops true [⟨some 7, .faddr 1 (.t 1), none⟩, ⟨some 8, .load none (.t 7), none⟩, ⟨some 9, .load (some 3) (.t 2), none⟩, ⟨some 10, .rd (.callP 52 [(.t 9)]), none⟩, ⟨some 11, .bslice true [.int .i64 0] [(some (.t 10))], none⟩, ⟨some 12, .append 1 (.t 8) (.t 11), none⟩, ⟨some 13, .faddr 1 (.t 1), none⟩, ⟨none, .store 1 (.t 13) (.t 12), none⟩]))
    (.ops false [⟨some 14, .bin .add (.t 5) (.c (.int .i64 1)), none⟩, ⟨some 5, .mv (.t 14), none⟩]))))))),
  []⟩

/- noria/val.Kind -/
def d_val_Kind : DFun := ⟨
  .seq (.ops false [⟨some 1, .box (.t 0), none⟩, ⟨some 2, .mv (.c (.int .i64 0)), none⟩])
  (.seq (.block 0 (.seq (.ops false [⟨some 4, .faddr 0 (.t 1), none⟩, ⟨some 5, .load none (.t 4), none⟩, ⟨some 6, .bin .eql (.t 5) (.c (.int .i64 1)), none⟩, ⟨some 7, .mv (.t 6), none⟩, ⟨some 8, .faddr 0 (.t 1), some (7, false)⟩, ⟨some 9, .load none (.t 8), some (7, false)⟩, ⟨some 10, .bin .eql (.t 9) (.c (.int .i64 2)), some (7, false)⟩, ⟨some 11, .pick (.t 7) (.c (.bool true)) (.t 10), none⟩, ⟨some 3, .mv (.t 11), none⟩])
   (.cond (.t 3) (.seq (.ops false [⟨some 12, .faddr 0 (.t 1), none⟩, ⟨some 13, .load none (.t 12), none⟩, ⟨some 2, .mv (.t 13), none⟩])
    (.ret))
    (.seq (.ops false [⟨some 15, .faddr 0 (.t 1), none⟩, ⟨some 16, .load none (.t 15), none⟩, ⟨some 17, .bin .eql (.t 16) (.c (.int .i64 3)), none⟩, ⟨some 18, .mv (.t 17), none⟩, ⟨some 19, .faddr 1 (.t 1), some (18, true)⟩, ⟨some 20, .load none (.t 19), some (18, true)⟩, ⟨some 21, .bin .geq (.t 20) (.c (.int .i64 0)), some (18, true)⟩, ⟨some 22, .pick (.t 18) (.t 21) (.c (.bool false)), none⟩, ⟨some 23, .mv (.t 22), none⟩, ⟨some 24, .faddr 1 (.t 1), some (23, true)⟩, ⟨some 25, .load none (.t 24), some (23, true)⟩, ⟨some 26, .bin .leq (.t 25) (.c (.int .i64 1000)), some (23, true)⟩, ⟨some 27, .pick (.t 23) (.t 26) (.c (.bool false)), none⟩, ⟨some 14, .mv (.t 27), none⟩])
    (.cond (.t 14) (.seq (.ops false [⟨some 28, .faddr 1 (.t 1), none⟩, ⟨some 29, .load none (.t 28), none⟩, ⟨some 30, .bin .add (.c (.int .i64 3)) (.t 29), none⟩, ⟨some 2, .mv (.t 30), none⟩])
     (.ret))
     (.skip))))))
  (.seq (.ops false [⟨some 2, .mv (.c (.int .i64 0)), none⟩])
  (.ret))),
  [.t 2]⟩

/- noria/noriaref32.kinds -/
def d_noriaref32_kinds : DFun := ⟨
  .seq (.ops false [⟨some 3, .box (.t 1), none⟩, ⟨some 4, .mv (.c (.nil)), none⟩])
  (.seq (.seq (.ops false [⟨some 5, .mv (.c (.int .i64 0)), none⟩])
  (.block 0 (.loop [0, 3, 5] none (.seq (.seq (.ops false [⟨some 6, .mv (.t 5), none⟩, ⟨some 7, .load (some 3) (.t 3), none⟩, ⟨some 8, .callP 44 [(.t 7)], none⟩, ⟨some 9, .bin .lss (.t 6) (.t 8), none⟩])
    (.cond (.t 9) (.skip)
     (.exit 0)))
    (.seq (.block 1 (.ops false [⟨some 12, .mv (.t 0), none⟩, ⟨some 13, .load (some 3) (.t 3), none⟩, ⟨some 14, .callP 63 [(.t 13)], none⟩, ⟨some 15, .bslice true [.int .i64 0] [(some (.t 14))], none⟩, ⟨some 16, .append 1 (.t 12) (.t 15), none⟩, ⟨some 0, .mv (.t 16), none⟩]))
    (.ops false [⟨some 10, .mv (.t 5), none⟩, ⟨some 11, .bin .add (.t 10) (.c (.int .i64 1)), none⟩, ⟨some 5, .mv (.t 11), none⟩]))))))
  (.seq (.ops false [⟨some 17, .mv (.t 0), none⟩, ⟨some 4, .mv (.t 17), none⟩])
  (.ret))),
  [.t 4]⟩

/- noria/val.Right$1 -/
def d_val_Right_1 : DFun := ⟨
  .seq (.ops false [⟨some 4, .mv (.c (.bool false)), none⟩])
  (.seq (.ops false [⟨some 5, .load none (.t 1), none⟩, ⟨some 6, .load (some 3) (.t 2), none⟩, ⟨some 7, .mv (.t 0), none⟩, ⟨some 8, .callP 55 [(.t 5), (.t 6), (.t 7)], none⟩, ⟨some 9, .un .not (.t 8), none⟩, ⟨some 4, .mv (.t 9), none⟩])
  (.ret)),
  [.t 4]⟩

/- noria/val.One -/
def d_val_One : DFun := ⟨
  .seq (.ops false [⟨some 4, .box (.t 1), none⟩, ⟨some 6, .mv (.c (.bool false)), none⟩])
  (.seq (.seq (.ops false [⟨some 7, .mv (.t 0), none⟩, ⟨some 8, .load (some 3) (.t 4), none⟩, ⟨some 9, .callP 47 [(.t 7), (.t 8)], none⟩, ⟨some 10, .un .not (.t 9), none⟩])
  (.cond (.t 10) (.seq (.ops false [⟨some 6, .mv (.c (.bool false)), none⟩])
   (.ret))
   (.skip)))
  (.seq (.seq (.ops false [⟨some 11, .faddr 0 (.t 4), none⟩, ⟨some 12, .load none (.t 11), none⟩])
  (.block 0 (.seq (.ops false [⟨some 14, .bin .eql (.t 12) (.c (.int .i64 2)), none⟩, ⟨some 13, .mv (.t 14), none⟩])
   (.cond (.t 13) (.seq (.ops false [⟨some 15, .mv (.t 2), none⟩, ⟨some 16, .bin .eql (.t 15) (.c (.int .i64 0)), none⟩, ⟨some 17, .mv (.t 16), none⟩, ⟨some 18, .mv (.t 2), some (17, false)⟩, ⟨some 19, .bin .eql (.t 18) (.c (.int .i64 1)), some (17, false)⟩, ⟨some 20, .pick (.t 17) (.c (.bool true)) (.t 19), none⟩, ⟨some 6, .mv (.t 20), none⟩])
    (.ret))
    (.seq (.ops false [⟨some 22, .bin .eql (.t 12) (.c (.int .i64 3)), none⟩, ⟨some 21, .mv (.t 22), none⟩])
    (.cond (.t 21) (.seq (.ops false [⟨some 23, .mv (.t 2), none⟩, ⟨some 24, .bin .geq (.t 23) (.c (.int .i64 0)), none⟩, ⟨some 25, .mv (.t 24), none⟩, ⟨some 26, .mv (.t 2), some (25, true)⟩, ⟨some 27, .mv (.t 0), some (25, true)⟩, ⟨some 28, .faddr 1 (.t 4), some (25, true)⟩, ⟨some 29, .load none (.t 28), some (25, true)⟩, ⟨some 30, .iaddr 2 (.t 27) (.t 29), some (25, true)⟩, ⟨some 31, .faddr 1 (.t 30), some (25, true)⟩, ⟨some 32, .load none (.t 31), some (25, true)⟩, ⟨some 33, .len (.t 32), some (25, true)⟩, ⟨some 34, .bin .lss (.t 26) (.t 33), some (25, true)⟩, ⟨some 35, .pick (.t 25) (.t 34) (.c (.bool false)), none⟩, ⟨some 6, .mv (.t 35), none⟩])
     (.ret))
     (.skip)))))))
  (.seq (.ops false [⟨some 6, .mv (.c (.bool true)), none⟩])
  (.ret)))),
  [.t 6]⟩

/- slices.ContainsFunc[[]int64,int64] -/
def d_slices_ContainsFunc_int64_int64 : DFun := ⟨
  .seq (.ops false [⟨some 4, .mv (.c (.bool false)), none⟩])
  (.seq (.ops false [⟨some 5, .mv (.t 0), none⟩, ⟨some 6, .mv (.t 1), none⟩, ⟨some 7, .callP 64 [(.t 5), (.t 6)], none⟩, ⟨some 8, .bin .geq (.t 7) (.c (.int .i64 0)), none⟩, ⟨some 4, .mv (.t 8), none⟩])
  (.ret)),
  [.t 4]⟩

/- noria/noriaref05.Right -/
def d_noriaref05_Right : DFun := ⟨
  .seq (.ops false [⟨some 3, .box (.t 1), none⟩, ⟨some 4, .mv (.c (.bool false)), none⟩])
  (.seq (.seq (.ops false [⟨some 5, .faddr 0 (.t 3), none⟩, ⟨some 6, .load none (.t 5), none⟩, ⟨some 7, .bin .lss (.t 6) (.c (.int .i64 1)), none⟩, ⟨some 8, .mv (.t 7), none⟩, ⟨some 9, .faddr 0 (.t 3), some (8, false)⟩, ⟨some 10, .load none (.t 9), some (8, false)⟩, ⟨some 11, .bin .gtr (.t 10) (.c (.int .i64 3)), some (8, false)⟩, ⟨some 12, .pick (.t 8) (.c (.bool true)) (.t 11), none⟩, ⟨some 13, .mv (.t 12), none⟩, ⟨some 14, .faddr 2 (.t 3), some (13, false)⟩, ⟨some 15, .load none (.t 14), some (13, false)⟩, ⟨some 16, .bin .lss (.t 15) (.c (.int .i64 0)), some (13, false)⟩, ⟨some 17, .pick (.t 13) (.c (.bool true)) (.t 16), none⟩, ⟨some 18, .mv (.t 17), none⟩, ⟨some 19, .faddr 2 (.t 3), some (18, false)⟩, ⟨some 20, .load none (.t 19), some (18, false)⟩, ⟨some 21, .bin .gtr (.t 20) (.c (.int .i64 8)), some (18, false)⟩, ⟨some 22, .pick (.t 18) (.c (.bool true)) (.t 21), none⟩])
  (.cond (.t 22) (.seq (.ops false [⟨some 4, .mv (.c (.bool false)), none⟩])
   (.ret))
   (.skip)))
  (.seq (.seq (.ops false [⟨some 23, .faddr 0 (.t 3), none⟩, ⟨some 24, .load none (.t 23), none⟩, ⟨some 25, .bin .eql (.t 24) (.c (.int .i64 3)), none⟩])
  (.cond (.t 25) (.seq (.ops false [⟨some 26, .faddr 1 (.t 3), none⟩, ⟨some 27, .load none (.t 26), none⟩, ⟨some 28, .bin .geq (.t 27) (.c (.int .i64 0)), none⟩, ⟨some 29, .mv (.t 28), none⟩, ⟨some 30, .faddr 1 (.t 3), some (29, true)⟩, ⟨some 31, .load none (.t 30), some (29, true)⟩, ⟨some 32, .mv (.t 0), some (29, true)⟩, ⟨some 33, .len (.t 32), some (29, true)⟩, ⟨some 34, .bin .lss (.t 31) (.t 33), some (29, true)⟩, ⟨some 35, .pick (.t 29) (.t 34) (.c (.bool false)), none⟩, ⟨some 4, .mv (.t 35), none⟩])
   (.ret))
   (.skip)))
  (.seq (.ops false [⟨some 36, .faddr 1 (.t 3), none⟩, ⟨some 37, .load none (.t 36), none⟩, ⟨some 38, .bin .eql (.t 37) (.c (.int .i64 0)), none⟩, ⟨some 4, .mv (.t 38), none⟩])
  (.ret)))),
  [.t 4]⟩

/- noria/noriaref06.One -/
def d_noriaref06_One : DFun := ⟨
  .seq (.ops false [⟨some 4, .box (.t 1), none⟩, ⟨some 6, .mv (.c (.bool false)), none⟩])
  (.seq (.seq (.ops false [⟨some 7, .mv (.t 0), none⟩, ⟨some 8, .load (some 3) (.t 4), none⟩, ⟨some 9, .callP 57 [(.t 7), (.t 8)], none⟩, ⟨some 10, .un .not (.t 9), none⟩])
  (.cond (.t 10) (.seq (.ops false [⟨some 6, .mv (.c (.bool false)), none⟩])
   (.ret))
   (.skip)))
  (.seq (.seq (.ops false [⟨some 11, .faddr 0 (.t 4), none⟩, ⟨some 12, .load none (.t 11), none⟩, ⟨some 13, .bin .eql (.t 12) (.c (.int .i64 2)), none⟩])
  (.cond (.t 13) (.seq (.ops false [⟨some 14, .mv (.t 2), none⟩, ⟨some 15, .bin .eql (.t 14) (.c (.int .i64 0)), none⟩, ⟨some 16, .mv (.t 15), none⟩, ⟨some 17, .mv (.t 2), some (16, false)⟩, ⟨some 18, .bin .eql (.t 17) (.c (.int .i64 1)), some (16, false)⟩, ⟨some 19, .pick (.t 16) (.c (.bool true)) (.t 18), none⟩, ⟨some 6, .mv (.t 19), none⟩])
   (.ret))
   (.skip)))
  (.seq (.ops false [⟨some 20, .faddr 0 (.t 4), none⟩, ⟨some 21, .load none (.t 20), none⟩, ⟨some 22, .bin .eql (.t 21) (.c (.int .i64 1)), none⟩, ⟨some 23, .mv (.t 22), none⟩, ⟨some 24, .mv (.t 2), some (23, false)⟩, ⟨some 25, .bin .geq (.t 24) (.c (.int .i64 0)), some (23, false)⟩, ⟨some 26, .mv (.t 25), some (23, false)⟩, ⟨some 27, .mv (.t 2), some (26, true)⟩, ⟨some 28, .mv (.t 0), some (26, true)⟩, ⟨some 29, .faddr 1 (.t 4), some (26, true)⟩, ⟨some 30, .load none (.t 29), some (26, true)⟩, ⟨some 31, .iaddr 2 (.t 28) (.t 30), some (26, true)⟩, ⟨some 32, .faddr 1 (.t 31), some (26, true)⟩, ⟨some 33, .load none (.t 32), some (26, true)⟩, ⟨some 34, .len (.t 33), some (26, true)⟩, ⟨some 35, .bin .lss (.t 27) (.t 34), some (26, true)⟩, ⟨some 36, .pick (.t 26) (.t 35) (.c (.bool false)), some (23, false)⟩, ⟨some 37, .pick (.t 23) (.c (.bool true)) (.t 36), none⟩, ⟨some 6, .mv (.t 37), none⟩])
  (.ret)))),
  [.t 6]⟩

/- noria/noriaref04.in -/
def d_noriaref04_in : DFun := ⟨
  .seq (.ops false [⟨some 6, .mv (.c (.bool false)), none⟩])
  (.seq (.ops false [⟨some 7, .mv (.t 0), none⟩, ⟨some 8, .mv (.t 1), none⟩, ⟨some 9, .bin .geq (.t 7) (.t 8), none⟩, ⟨some 10, .mv (.t 9), none⟩, ⟨some 11, .mv (.t 0), some (10, true)⟩, ⟨some 12, .mv (.t 2), some (10, true)⟩, ⟨some 13, .bin .leq (.t 11) (.t 12), some (10, true)⟩, ⟨some 14, .pick (.t 10) (.t 13) (.c (.bool false)), none⟩, ⟨some 6, .mv (.t 14), none⟩])
  (.ret)),
  [.t 6]⟩

/- noria/noriaref04.Words -/
def d_noriaref04_Words : DFun := ⟨
  .seq (.ops false [⟨some 0, .mv (.c (.nil)), none⟩])
  (.seq (.ops false [⟨some 1, .bslice true [.str []] [(some (.c (.str [110, 111, 100, 101]))), (some (.c (.str [114, 101, 116, 117, 114, 110, 115]))), (some (.c (.str [118, 97, 114]))), (some (.c (.str [108, 101, 116]))), (some (.c (.str [116, 101, 108]))), (some (.c (.str [101, 110, 117, 109]))), (some (.c (.str [105, 102]))), (some (.c (.str [116, 104, 101, 110]))), (some (.c (.str [101, 108, 115, 101]))), (some (.c (.str [102, 98, 121]))), (some (.c (.str [112, 114, 101]))), (some (.c (.str [119, 104, 101, 110]))), (some (.c (.str [109, 101, 114, 103, 101]))), (some (.c (.str [101, 118, 101, 114, 121]))), (some (.c (.str [110, 111, 116]))), (some (.c (.str [97, 110, 100]))), (some (.c (.str [111, 114]))), (some (.c (.str [120, 111, 114]))), (some (.c (.str [109, 111, 100]))), (some (.c (.str [116, 114, 117, 101]))), (some (.c (.str [102, 97, 108, 115, 101]))), (some (.c (.str [105, 110, 116]))), (some (.c (.str [98, 111, 111, 108]))), (some (.c (.str [119, 105, 116, 104])))], none⟩, ⟨some 0, .mv (.t 1), none⟩])
  (.ret)),
  [.t 0]⟩

/- noria/noriaref01.Names -/
def d_noriaref01_Names : DFun := ⟨
  .seq (.ops false [⟨some 4, .mv (.c (.bool false)), none⟩])
  (.seq (.seq (.ops false [⟨some 6, .mv (.t 0), none⟩, ⟨some 7, .len (.t 6), none⟩, ⟨some 8, .mv (.t 1), none⟩, ⟨some 9, .len (.t 8), none⟩, ⟨some 10, .bin .neq (.t 7) (.t 9), none⟩])
  (.cond (.t 10) (.seq (.ops false [⟨some 4, .mv (.c (.bool false)), none⟩])
   (.ret))
   (.skip)))
  (.seq (.seq (.ops false [⟨some 5, .mv (.c (.int .i64 0)), none⟩])
  (.block 0 (.loop [0, 1, 5] (some 0) (.seq (.seq (.ops false [⟨some 11, .mv (.t 5), none⟩, ⟨some 12, .mv (.t 0), none⟩, ⟨some 13, .len (.t 12), none⟩, ⟨some 14, .bin .lss (.t 11) (.t 13), none⟩])
    (.cond (.t 14) (.skip)
     (.exit 0)))
    (.seq (.block 1 (.seq (.ops true [⟨some 17, .mv (.t 0), none⟩, ⟨some 18, .mv (.t 5), none⟩, ⟨some 19, .iaddr 1 (.t 17) (.t 18), none⟩, ⟨some 20, .load none (.t 19), none⟩, ⟨some 21, .mv (.t 1), none⟩, ⟨some 22, .mv (.t 5), none⟩, ⟨some 23, .iaddr 1 (.t 21) (.t 22), none⟩, ⟨some 24, .load none (.t 23), none⟩, ⟨some 25, .bin .neq (.t 20) (.t 24), none⟩])
     (.cond (.t 25) (.seq (.ops false [⟨some 4, .mv (.c (.bool false)), none⟩])
      (.ret))
      (.skip))))
    (.ops false [⟨some 15, .mv (.t 5), none⟩, ⟨some 16, .bin .add (.t 15) (.c (.int .i64 1)), none⟩, ⟨some 5, .mv (.t 16), none⟩]))))))
  (.seq (.ops false [⟨some 4, .mv (.c (.bool true)), none⟩])
  (.ret)))),
  [.t 4]⟩

/- slices.Grow[[]int64,int64] -/
def d_slices_Grow_int64_int64 : DFun := ⟨
  .seq (.ops false [⟨some 4, .mv (.c (.nil)), none⟩])
  (.seq (.seq (.ops false [⟨some 5, .mv (.t 1), none⟩, ⟨some 6, .bin .lss (.t 5) (.c (.int .i64 0)), none⟩])
  (.cond (.t 6) (.ops false [⟨some 7, .bad, none⟩, ⟨none, .bad, none⟩])
   (.skip)))
  (.seq (.seq (.ops false [⟨some 8, .mv (.t 1), none⟩, ⟨some 9, .mv (.t 0), none⟩, ⟨some 10, .capn (.t 9), none⟩, ⟨some 11, .mv (.t 0), none⟩, ⟨some 12, .len (.t 11), none⟩, ⟨some 13, .bin .sub (.t 10) (.t 12), none⟩, ⟨some 14, .bin .sub (.t 8) (.t 13), none⟩, ⟨some 1, .mv (.t 14), none⟩])
  (.seq (.ops false [⟨some 15, .mv (.t 1), none⟩, ⟨some 16, .bin .gtr (.t 15) (.c (.int .i64 0)), none⟩])
  (.cond (.t 16) (.ops false [⟨some 17, .mv (.t 0), none⟩, ⟨some 18, .mv (.t 0), none⟩, ⟨some 19, .capn (.t 18), none⟩, ⟨some 20, .slice 1 (.t 17) none (some (.t 19)) none, none⟩, ⟨some 21, .mv (.t 1), none⟩, ⟨some 22, .appz 1 [.int .i64 0] (.t 20) (.t 21), none⟩, ⟨some 23, .mv (.t 0), none⟩, ⟨some 24, .len (.t 23), none⟩, ⟨some 25, .slice 1 (.t 22) none (some (.t 24)) none, none⟩, ⟨some 0, .home 1 (.t 25), none⟩])
   (.skip))))
  (.seq (.ops false [⟨some 26, .home 1 (.t 0), none⟩, ⟨some 4, .mv (.t 26), none⟩])
  (.ret)))),
  [.t 4]⟩

/- noria/noriaref06.Kind -/
def d_noriaref06_Kind : DFun := ⟨
  .seq (.ops false [⟨some 1, .box (.t 0), none⟩, ⟨some 2, .mv (.c (.int .i64 0)), none⟩])
  (.seq (.seq (.ops false [⟨some 3, .faddr 0 (.t 1), none⟩, ⟨some 4, .load none (.t 3), none⟩, ⟨some 5, .bin .eql (.t 4) (.c (.int .i64 1)), none⟩, ⟨some 6, .mv (.t 5), none⟩, ⟨some 7, .faddr 0 (.t 1), some (6, false)⟩, ⟨some 8, .load none (.t 7), some (6, false)⟩, ⟨some 9, .bin .eql (.t 8) (.c (.int .i64 2)), some (6, false)⟩, ⟨some 10, .pick (.t 6) (.c (.bool true)) (.t 9), none⟩])
  (.cond (.t 10) (.seq (.ops false [⟨some 11, .faddr 0 (.t 1), none⟩, ⟨some 12, .load none (.t 11), none⟩, ⟨some 2, .mv (.t 12), none⟩])
   (.ret))
   (.skip)))
  (.seq (.seq (.ops false [⟨some 13, .faddr 0 (.t 1), none⟩, ⟨some 14, .load none (.t 13), none⟩, ⟨some 15, .bin .eql (.t 14) (.c (.int .i64 3)), none⟩, ⟨some 16, .mv (.t 15), none⟩, ⟨some 17, .faddr 1 (.t 1), some (16, true)⟩, ⟨some 18, .load none (.t 17), some (16, true)⟩, ⟨some 19, .bin .geq (.t 18) (.c (.int .i64 0)), some (16, true)⟩, ⟨some 20, .pick (.t 16) (.t 19) (.c (.bool false)), none⟩, ⟨some 21, .mv (.t 20), none⟩, ⟨some 22, .faddr 1 (.t 1), some (21, true)⟩, ⟨some 23, .load none (.t 22), some (21, true)⟩, ⟨some 24, .bin .leq (.t 23) (.c (.int .i64 1000)), some (21, true)⟩, ⟨some 25, .pick (.t 21) (.t 24) (.c (.bool false)), none⟩])
  (.cond (.t 25) (.seq (.ops false [⟨some 26, .faddr 1 (.t 1), none⟩, ⟨some 27, .load none (.t 26), none⟩, ⟨some 28, .bin .add (.c (.int .i64 3)) (.t 27), none⟩, ⟨some 2, .mv (.t 28), none⟩])
   (.ret))
   (.skip)))
  (.seq (.ops false [⟨some 2, .mv (.c (.int .i64 0)), none⟩])
  (.ret)))),
  [.t 2]⟩

/- slices.IndexFunc[[]int64,int64] -/
def d_slices_IndexFunc_int64_int64 : DFun := ⟨
  .seq (.ops false [⟨some 4, .mv (.c (.int .i64 0)), none⟩])
  (.seq (.seq (.ops false [⟨some 6, .mv (.t 0), none⟩, ⟨some 7, .len (.t 6), none⟩, ⟨some 8, .mv (.c (.int .i64 0)), none⟩])
  (.block 0 (.loop [0, 1, 7, 8] (some 0) (.seq (.ops false [⟨some 9, .bin .lss (.t 8) (.t 7), none⟩])
    (.seq (.cond (.t 9) (.skip)
     (.exit 0))
    (.seq (.block 1 (.seq (.ops false [⟨some 10, .mv (.t 8), none⟩, ⟨some 5, .mv (.t 10), none⟩])
     (.seq (.ops false [⟨some 11, .mv (.t 1), none⟩, ⟨some 12, .mv (.t 0), none⟩, ⟨some 13, .mv (.t 5), none⟩, ⟨some 14, .iaddr 1 (.t 12) (.t 13), none⟩, ⟨some 15, .load none (.t 14), none⟩, ⟨some 16, .callvP (.t 11) [(.t 15)], none⟩])
     (.cond (.t 16) (.seq (.ops false [⟨some 17, .mv (.t 5), none⟩, ⟨some 4, .mv (.t 17), none⟩])
      (.ret))
      (.skip)))))
    (.ops false [⟨some 18, .bin .add (.t 8) (.c (.int .i64 1)), none⟩, ⟨some 8, .mv (.t 18), none⟩])))))))
  (.seq (.ops false [⟨some 4, .mv (.c (.int .i64 (-1))), none⟩])
  (.ret))),
  [.t 4]⟩

end Go.Proofs.Ytiidllpiipcdjaa
