/- The data-level reading of the functions. -/
import Derived.Test.YtfaailjhioobhaaGreatNkZ
set_option linter.all false
namespace Go.Proofs.YtfaailjhioobhaaGreat
open Go.Nk

/-- The cells of a Sum: done, the lock's state, its table, its register, and whether it was made. -/
def sumRow (d st : Int) (t : List (BitVec 32)) (r : BitVec 32) (m : Bool) : List DV := .int .u32 d :: .int .i32 st :: .int .u32 0 :: (t.map (fun x => DV.int .u32 (x.toNat : Int)) ++ [.int .u32 (r.toNat : Int), .bool m])
def sumZ : List DV := sumRow 0 0 (List.replicate 256 0#32) 0#32 false

/- noria/norialaw33.ImageEncodes -/
/- noria/norialaw33.ImageDecodes -/
/- noria/norialaw33.ImageBack -/
def d_norialaw33_ImageBack : DFun := ⟨
  .seq (.ops false [⟨some 2, .box (.t 0), none⟩, ⟨some 4, .mv (.c (.bool false)), none⟩])
  (.seq (.seq (.ops false [⟨some 13, .load (some 6) (.t 2), none⟩, ⟨some 14, .callP 7 [(.t 13)], none⟩, ⟨some 15, .un .not (.t 14), none⟩, ⟨some 16, .mv (.t 15), none⟩, ⟨some 17, .mv (.t 1), some (16, false)⟩, ⟨some 18, .len (.t 17), some (16, false)⟩, ⟨some 19, .bin .gtr (.t 18) (.c (.int .i64 6000)), some (16, false)⟩, ⟨some 20, .pick (.t 16) (.c (.bool true)) (.t 19), none⟩])
  (.cond (.t 20) (.seq (.ops false [⟨some 21, .callP 8 [], none⟩, ⟨some 4, .mv (.t 21), none⟩])
   (.ret))
   (.skip)))
  (.seq (.ops false [⟨some 23, .load (some 6) (.t 2), none⟩, ⟨some 24, .callP 9 [(.t 23)], none⟩, ⟨some 22, .mv (.t 24), none⟩, ⟨some 25, .extract 0 (.t 22), none⟩, ⟨some 26, .extract 1 (.t 22), none⟩, ⟨some 5, .mv (.t 25), none⟩, ⟨some 6, .mv (.t 26), none⟩])
  (.seq (.seq (.ops false [⟨some 27, .mv (.t 6), none⟩])
  (.cond (.t 27) (.seq (.ops false [⟨some 29, .mv (.t 5), none⟩, ⟨some 30, .callP 12 [(.t 29)], none⟩, ⟨some 28, .mv (.t 30), none⟩, ⟨some 31, .extract 0 (.t 28), none⟩, ⟨some 32, .extract 1 (.t 28), none⟩, ⟨some 7, .alloc [.nil, .nil, .nil, .nil, .nil, .nil], none⟩, ⟨none, .store 6 (.t 7) (.t 31), none⟩, ⟨some 8, .mv (.t 32), none⟩])
   (.seq (.ops false [⟨some 33, .mv (.t 8), none⟩, ⟨some 34, .callP 15 [(.t 33)], none⟩, ⟨some 35, .bin .neq (.t 34) (.c (.int .i64 0)), none⟩, ⟨some 36, .mv (.t 35), none⟩, ⟨some 37, .load (some 6) (.t 2), some (36, false)⟩, ⟨some 38, .load (some 6) (.t 7), some (36, false)⟩, ⟨some 39, .callP 14 [(.t 37), (.t 38)], some (36, false)⟩, ⟨some 40, .un .not (.t 39), some (36, false)⟩, ⟨some 41, .pick (.t 36) (.c (.bool true)) (.t 40), none⟩, ⟨some 42, .mv (.t 41), none⟩, ⟨some 43, .load (some 6) (.t 2), some (42, false)⟩, ⟨some 44, .load (some 6) (.t 7), some (42, false)⟩, ⟨some 45, .callP 16 [(.t 43), (.t 44)], some (42, false)⟩, ⟨some 46, .un .not (.t 45), some (42, false)⟩, ⟨some 47, .pick (.t 42) (.c (.bool true)) (.t 46), none⟩])
   (.cond (.t 47) (.seq (.ops false [⟨some 4, .mv (.c (.bool false)), none⟩])
    (.ret))
    (.skip))))
   (.skip)))
  (.seq (.ops false [⟨some 49, .mv (.t 1), none⟩, ⟨some 50, .callP 12 [(.t 49)], none⟩, ⟨some 48, .mv (.t 50), none⟩, ⟨some 51, .extract 0 (.t 48), none⟩, ⟨some 52, .extract 1 (.t 48), none⟩, ⟨some 9, .alloc [.nil, .nil, .nil, .nil, .nil, .nil], none⟩, ⟨none, .store 6 (.t 9) (.t 51), none⟩, ⟨some 10, .mv (.t 52), none⟩])
  (.seq (.seq (.ops false [⟨some 53, .mv (.t 10), none⟩, ⟨some 54, .callP 15 [(.t 53)], none⟩, ⟨some 55, .bin .neq (.t 54) (.c (.int .i64 0)), none⟩])
  (.cond (.t 55) (.seq (.ops false [⟨some 56, .load (some 6) (.t 9), none⟩, ⟨some 57, .build [.nil, .nil, .nil, .nil, .nil, .nil] [], none⟩, ⟨some 58, .callP 14 [(.t 56), (.t 57)], none⟩, ⟨some 59, .mv (.t 58), none⟩, ⟨some 60, .callP 8 [], some (59, true)⟩, ⟨some 61, .pick (.t 59) (.t 60) (.c (.bool false)), none⟩, ⟨some 4, .mv (.t 61), none⟩])
   (.ret))
   (.skip)))
  (.seq (.ops false [⟨some 63, .load (some 6) (.t 9), none⟩, ⟨some 64, .callP 9 [(.t 63)], none⟩, ⟨some 62, .mv (.t 64), none⟩, ⟨some 65, .extract 0 (.t 62), none⟩, ⟨some 66, .extract 1 (.t 62), none⟩, ⟨some 11, .mv (.t 65), none⟩, ⟨some 12, .mv (.t 66), none⟩])
  (.seq (.ops false [⟨some 67, .mv (.t 12), none⟩, ⟨some 68, .mv (.t 67), none⟩, ⟨some 69, .mv (.t 11), some (68, true)⟩, ⟨some 70, .mv (.t 1), some (68, true)⟩, ⟨some 71, .callP 11 [(.t 69), (.t 70)], some (68, true)⟩, ⟨some 72, .pick (.t 68) (.t 71) (.c (.bool false)), none⟩, ⟨some 73, .mv (.t 72), none⟩, ⟨some 74, .callP 8 [], some (73, true)⟩, ⟨some 75, .pick (.t 73) (.t 74) (.c (.bool false)), none⟩, ⟨some 4, .mv (.t 75), none⟩])
  (.ret)))))))),
  [.t 4]⟩

/- noria/norialaw33.ImageTorn -/
/- noria/noriaref33.Few -/
def d_noriaref33_Few : DFun := ⟨
  .seq (.ops false [⟨some 1, .bref (.t 0), none⟩, ⟨some 2, .mv (.c (.bool false)), none⟩])
  (.seq (.seq (.ops false [⟨some 6, .faddr 0 (.t 1), none⟩, ⟨some 7, .load none (.t 6), none⟩, ⟨some 8, .callP 17 [(.t 7)], none⟩, ⟨some 9, .un .not (.t 8), none⟩, ⟨some 10, .mv (.t 9), none⟩, ⟨some 11, .faddr 1 (.t 1), some (10, false)⟩, ⟨some 12, .load none (.t 11), some (10, false)⟩, ⟨some 13, .len (.t 12), some (10, false)⟩, ⟨some 14, .faddr 2 (.t 1), some (10, false)⟩, ⟨some 15, .load none (.t 14), some (10, false)⟩, ⟨some 16, .len (.t 15), some (10, false)⟩, ⟨some 17, .bin .add (.t 13) (.t 16), some (10, false)⟩, ⟨some 18, .bin .gtr (.t 17) (.c (.int .i64 50)), some (10, false)⟩, ⟨some 19, .pick (.t 10) (.c (.bool true)) (.t 18), none⟩, ⟨some 20, .mv (.t 19), none⟩, ⟨some 21, .faddr 3 (.t 1), some (20, false)⟩, ⟨some 22, .load none (.t 21), some (20, false)⟩, ⟨some 23, .len (.t 22), some (20, false)⟩, ⟨some 24, .bin .gtr (.t 23) (.c (.int .i64 150)), some (20, false)⟩, ⟨some 25, .pick (.t 20) (.c (.bool true)) (.t 24), none⟩, ⟨some 26, .mv (.t 25), none⟩, ⟨some 27, .faddr 4 (.t 1), some (26, false)⟩, ⟨some 28, .load none (.t 27), some (26, false)⟩, ⟨some 29, .len (.t 28), some (26, false)⟩, ⟨some 30, .bin .gtr (.t 29) (.c (.int .i64 1100)), some (26, false)⟩, ⟨some 31, .pick (.t 26) (.c (.bool true)) (.t 30), none⟩, ⟨some 32, .mv (.t 31), none⟩, ⟨some 33, .faddr 5 (.t 1), some (32, false)⟩, ⟨some 34, .load none (.t 33), some (32, false)⟩, ⟨some 35, .len (.t 34), some (32, false)⟩, ⟨some 36, .bin .gtr (.t 35) (.c (.int .i64 800)), some (32, false)⟩, ⟨some 37, .pick (.t 32) (.c (.bool true)) (.t 36), none⟩])
  (.cond (.t 37) (.seq (.ops false [⟨some 2, .mv (.c (.bool false)), none⟩])
   (.ret))
   (.skip)))
  (.seq (.opsP [(1, ⟨some 39, .im (.faddr 1 (.t 1)), none⟩), (2, ⟨some 40, .im (.load none (.t 39)), none⟩), (4, ⟨some 42, .im (.faddr 2 (.t 1)), none⟩), (5, ⟨some 43, .im (.load none (.t 42)), none⟩), (0, ⟨some 38, .bslice false [.str [], .int .i64 0, .int .i64 0, .int .i64 0] [], none⟩), (3, ⟨some 41, .append 4 (.t 38) (.t 40), none⟩), (6, ⟨some 44, .append 4 (.t 41) (.t 43), none⟩), (7, ⟨some 3, .mv (.t 44), none⟩)])
  (.seq (.seq (.ops false [⟨some 4, .mv (.c (.int .i64 0)), none⟩])
  (.block 0 (.loop [1, 3, 4] (some 1) (.seq (.seq (.ops false [⟨some 45, .mv (.t 4), none⟩, ⟨some 46, .mv (.t 3), none⟩, ⟨some 47, .len (.t 46), none⟩, ⟨some 48, .bin .lss (.t 45) (.t 47), none⟩])
    (.cond (.t 48) (.skip)
     (.exit 0)))
    (.seq (.block 1 (.seq (.ops false [⟨some 51, .mv (.t 3), none⟩, ⟨some 52, .mv (.t 4), none⟩, ⟨some 53, .iaddr 4 (.t 51) (.t 52), none⟩, ⟨some 54, .faddr 0 (.t 53), none⟩, ⟨some 55, .load none (.t 54), none⟩, ⟨some 56, .lenS (.t 55), none⟩, ⟨some 57, .bin .gtr (.t 56) (.c (.int .i64 200)), none⟩])
     (.cond (.t 57) (.seq (.ops false [⟨some 2, .mv (.c (.bool false)), none⟩])
      (.ret))
      (.skip))))
    (.ops false [⟨some 49, .mv (.t 4), none⟩, ⟨some 50, .bin .add (.t 49) (.c (.int .i64 1)), none⟩, ⟨some 4, .mv (.t 50), none⟩]))))))
  (.seq (.seq (.ops false [⟨some 5, .mv (.c (.int .i64 0)), none⟩])
  (.block 2 (.loop [1, 5] (some 1) (.seq (.seq (.ops false [⟨some 58, .mv (.t 5), none⟩, ⟨some 59, .faddr 3 (.t 1), none⟩, ⟨some 60, .load none (.t 59), none⟩, ⟨some 61, .len (.t 60), none⟩, ⟨some 62, .bin .lss (.t 58) (.t 61), none⟩])
    (.cond (.t 62) (.skip)
     (.exit 2)))
    (.seq (.block 3 (.seq (.ops false [⟨some 65, .faddr 3 (.t 1), none⟩, ⟨some 66, .load none (.t 65), none⟩, ⟨some 67, .mv (.t 5), none⟩, ⟨some 68, .iaddr 6 (.t 66) (.t 67), none⟩, ⟨some 69, .faddr 0 (.t 68), none⟩, ⟨some 70, .load none (.t 69), none⟩, ⟨some 71, .lenS (.t 70), none⟩, ⟨some 72, .bin .gtr (.t 71) (.c (.int .i64 300)), none⟩, ⟨some 73, .mv (.t 72), none⟩, ⟨some 74, .faddr 3 (.t 1), some (73, false)⟩, ⟨some 75, .load none (.t 74), some (73, false)⟩, ⟨some 76, .mv (.t 5), some (73, false)⟩, ⟨some 77, .iaddr 6 (.t 75) (.t 76), some (73, false)⟩, ⟨some 78, .faddr 5 (.t 77), some (73, false)⟩, ⟨some 79, .load none (.t 78), some (73, false)⟩, ⟨some 80, .len (.t 79), some (73, false)⟩, ⟨some 81, .bin .gtr (.t 80) (.c (.int .i64 300)), some (73, false)⟩, ⟨some 82, .pick (.t 73) (.c (.bool true)) (.t 81), none⟩])
     (.cond (.t 82) (.seq (.ops false [⟨some 2, .mv (.c (.bool false)), none⟩])
      (.ret))
      (.skip))))
    (.ops false [⟨some 63, .mv (.t 5), none⟩, ⟨some 64, .bin .add (.t 63) (.c (.int .i64 1)), none⟩, ⟨some 5, .mv (.t 64), none⟩]))))))
  (.seq (.ops false [⟨some 2, .mv (.c (.bool true)), none⟩])
  (.ret)))))),
  [.t 2]⟩

/- noria/norialaw33.live -/
def d_norialaw33_live : DFun := ⟨
  .seq (.ops false [⟨some 0, .mv (.c (.bool false)), none⟩])
  (.seq (.ops false [⟨some 6, .build [.nil, .nil, .nil, .nil, .nil, .nil] [], none⟩, ⟨some 7, .callP 9 [(.t 6)], none⟩, ⟨some 5, .mv (.t 7), none⟩, ⟨some 8, .extract 0 (.t 5), none⟩, ⟨some 9, .extract 1 (.t 5), none⟩, ⟨some 1, .mv (.t 8), none⟩, ⟨some 2, .mv (.t 9), none⟩])
  (.seq (.ops false [⟨some 11, .mv (.t 1), none⟩, ⟨some 12, .callP 12 [(.t 11)], none⟩, ⟨some 10, .mv (.t 12), none⟩, ⟨some 13, .extract 0 (.t 10), none⟩, ⟨some 14, .extract 1 (.t 10), none⟩, ⟨some 3, .alloc [.nil, .nil, .nil, .nil, .nil, .nil], none⟩, ⟨none, .store 6 (.t 3) (.t 13), none⟩, ⟨some 4, .mv (.t 14), none⟩])
  (.seq (.ops false [⟨some 15, .mv (.t 2), none⟩, ⟨some 16, .mv (.t 15), none⟩, ⟨some 17, .mv (.t 1), some (16, true)⟩, ⟨some 18, .len (.t 17), some (16, true)⟩, ⟨some 19, .bin .eql (.t 18) (.c (.int .i64 44)), some (16, true)⟩, ⟨some 20, .pick (.t 16) (.t 19) (.c (.bool false)), none⟩, ⟨some 21, .mv (.t 20), none⟩, ⟨some 22, .mv (.t 4), some (21, true)⟩, ⟨some 23, .callP 15 [(.t 22)], some (21, true)⟩, ⟨some 24, .bin .eql (.t 23) (.c (.int .i64 0)), some (21, true)⟩, ⟨some 25, .pick (.t 21) (.t 24) (.c (.bool false)), none⟩, ⟨some 26, .mv (.t 25), none⟩, ⟨some 27, .load (some 6) (.t 3), some (26, true)⟩, ⟨some 28, .build [.nil, .nil, .nil, .nil, .nil, .nil] [], some (26, true)⟩, ⟨some 29, .callP 16 [(.t 27), (.t 28)], some (26, true)⟩, ⟨some 30, .pick (.t 26) (.t 29) (.c (.bool false)), none⟩, ⟨some 0, .mv (.t 30), none⟩])
  (.ret)))),
  [.t 0]⟩

/- noria/image.Encode -/
def d_image_Encode : DFun := ⟨
  .seq (.ops false [⟨some 1, .box (.t 0), none⟩, ⟨some 2, .mv (.c (.nil)), none⟩, ⟨some 3, .mv (.c (.bool false)), none⟩])
  (.seq (.ops false [⟨some 9, .callH 18 [], none⟩, ⟨some 4, .mv (.t 9), none⟩])
  (.gown 4 0 1 (.seq (.seq (.ops false [⟨some 10, .mv (.c (.int .i64 0)), none⟩])
  (.block 0 (.loop [1, 4, 10] none (.seq (.ops false [⟨some 11, .bin .lss (.t 10) (.c (.int .i64 6)), none⟩])
    (.seq (.cond (.t 11) (.skip)
     (.exit 0))
    (.seq (.block 1 (.seq (.ops false [⟨some 12, .mv (.t 10), none⟩, ⟨some 5, .mv (.t 12), none⟩])
     (.seq (.ops false [⟨some 14, .load (some 6) (.t 1), none⟩, ⟨some 15, .mv (.t 5), none⟩, ⟨some 16, .bin .add (.t 15) (.c (.int .i64 1)), none⟩, ⟨some 17, .callP 19 [(.t 14), (.t 16)], none⟩, ⟨some 13, .mv (.t 17), none⟩, ⟨some 18, .extract 0 (.t 13), none⟩, ⟨some 19, .extract 1 (.t 13), none⟩, ⟨some 6, .mv (.t 18), none⟩, ⟨some 7, .mv (.t 19), none⟩])
     (.seq (.seq (.ops false [⟨some 20, .mv (.t 7), none⟩, ⟨some 21, .un .not (.t 20), none⟩])
     (.cond (.t 21) (.seq (.ops false [⟨some 2, .mv (.c (.nil)), none⟩, ⟨some 3, .mv (.c (.bool false)), none⟩])
      (.ret))
      (.skip)))
     (.seq (.ops false [⟨some 22, .mv (.t 4), none⟩, ⟨some 23, .mv (.t 5), none⟩, ⟨some 24, .bin .add (.t 23) (.c (.int .i64 1)), none⟩, ⟨some 25, .callH 20 [(.t 22), (.t 24), (.c (.int .i64 1))], none⟩])
     (.ops false [⟨some 26, .mv (.t 4), none⟩, ⟨some 27, .mv (.t 6), none⟩, ⟨some 28, .callH 21 [(.t 26), (.t 27)], none⟩]))))))
    (.ops false [⟨some 29, .bin .add (.t 10) (.c (.int .i64 1)), none⟩, ⟨some 10, .mv (.t 29), none⟩])))))))
  (.seq (.ops false [⟨some 30, .bslice false [.int .u8 0] [(some (.c (.int .u8 78))), (some (.c (.int .u8 79))), (some (.c (.int .u8 82))), (some (.c (.int .u8 49)))], none⟩, ⟨some 31, .mark (.t 30), none⟩, ⟨some 32, .mv (.t 4), none⟩, ⟨some 33, .callH 24 [(.t 32)], none⟩, ⟨some 34, .bslice true [.nil] [(some (.t 31)), (some (.t 33))], none⟩, ⟨some 35, .callP 23 [(.t 34)], none⟩, ⟨some 36, .callP 22 [(.t 35)], none⟩, ⟨some 8, .mv (.t 36), none⟩])
  (.seq (.seq (.ops false [⟨some 37, .mv (.t 8), none⟩, ⟨some 38, .len (.t 37), none⟩, ⟨some 39, .bin .gtr (.t 38) (.c (.int .i64 131072)), none⟩])
  (.cond (.t 39) (.seq (.ops false [⟨some 2, .mv (.c (.nil)), none⟩, ⟨some 3, .mv (.c (.bool false)), none⟩])
   (.ret))
   (.skip)))
  (.seq (.ops false [⟨some 40, .mv (.t 8), none⟩, ⟨some 2, .mv (.t 40), none⟩, ⟨some 3, .mv (.c (.bool true)), none⟩])
  (.ret))))))),
  [.t 2, .t 3]⟩

/- noria/noriaref33.Encode -/
/- noria/noriaref01.Same -/
def d_noriaref01_Same : DFun := ⟨
  .seq (.ops false [⟨some 4, .mv (.c (.bool false)), none⟩])
  (.seq (.seq (.ops false [⟨some 6, .mv (.t 0), none⟩, ⟨some 7, .len (.t 6), none⟩, ⟨some 8, .mv (.t 1), none⟩, ⟨some 9, .len (.t 8), none⟩, ⟨some 10, .bin .neq (.t 7) (.t 9), none⟩])
  (.cond (.t 10) (.seq (.ops false [⟨some 4, .mv (.c (.bool false)), none⟩])
   (.ret))
   (.skip)))
  (.seq (.seq (.ops false [⟨some 5, .mv (.c (.int .i64 0)), none⟩])
  (.block 0 (.loop [0, 1, 5] (some 0) (.seq (.seq (.ops false [⟨some 11, .mv (.t 5), none⟩, ⟨some 12, .mv (.t 0), none⟩, ⟨some 13, .len (.t 12), none⟩, ⟨some 14, .bin .lss (.t 11) (.t 13), none⟩])
    (.cond (.t 14) (.skip)
     (.exit 0)))
    (.seq (.block 1 (.seq (.ops true [⟨some 17, .mv (.t 0), none⟩, ⟨some 18, .mv (.t 5), none⟩, ⟨some 19, .iaddr 1 (.t 17) (.t 18), none⟩, ⟨some 20, .load none (.t 19), none⟩, ⟨some 21, .mv (.t 1), none⟩, ⟨some 22, .mv (.t 5), none⟩, ⟨some 23, .iaddr 1 (.t 21) (.t 22), none⟩, ⟨some 24, .load none (.t 23), none⟩, ⟨some 25, .bin .neq (.t 20) (.t 24), none⟩])
     (.cond (.t 25) (.seq (.ops false [⟨some 4, .mv (.c (.bool false)), none⟩])
      (.ret))
      (.skip))))
    (.ops false [⟨some 15, .mv (.t 5), none⟩, ⟨some 16, .bin .add (.t 15) (.c (.int .i64 1)), none⟩, ⟨some 5, .mv (.t 16), none⟩]))))))
  (.seq (.ops false [⟨some 4, .mv (.c (.bool true)), none⟩])
  (.ret)))),
  [.t 4]⟩

/- noria/image.Decode -/
def d_image_Decode : DFun := ⟨
  .seq (.ops false [⟨some 2, .alloc [.nil, .nil, .nil, .nil, .nil, .nil], none⟩, ⟨some 3, .mv (.c (.int .i64 0)), none⟩])
  (.seq (.seq (.ops false [⟨some 8, .mv (.t 0), none⟩, ⟨some 9, .len (.t 8), none⟩, ⟨some 10, .bin .gtr (.t 9) (.c (.int .i64 131072)), none⟩])
  (.cond (.t 10) (.seq (.ops false [⟨some 11, .build [.nil, .nil, .nil, .nil, .nil, .nil] [], none⟩, ⟨none, .store 6 (.t 2) (.t 11), none⟩, ⟨some 3, .mv (.c (.int .i64 3)), none⟩])
   (.ret))
   (.skip)))
  (.seq (.seq (.ops false [⟨some 12, .mv (.t 0), none⟩, ⟨some 13, .len (.t 12), none⟩, ⟨some 14, .bin .lss (.t 13) (.c (.int .i64 8)), none⟩, ⟨some 15, .mv (.t 14), none⟩, ⟨some 16, .mv (.t 0), some (15, false)⟩, ⟨some 17, .bslice false [.int .u8 0] [(some (.c (.int .u8 78))), (some (.c (.int .u8 79))), (some (.c (.int .u8 82))), (some (.c (.int .u8 49)))], some (15, false)⟩, ⟨some 18, .mark (.t 17), some (15, false)⟩, ⟨some 19, .callP 33 [(.t 16), (.t 18)], some (15, false)⟩, ⟨some 20, .un .not (.t 19), some (15, false)⟩, ⟨some 21, .pick (.t 15) (.c (.bool true)) (.t 20), none⟩])
  (.cond (.t 21) (.seq (.ops false [⟨some 22, .build [.nil, .nil, .nil, .nil, .nil, .nil] [], none⟩, ⟨none, .store 6 (.t 2) (.t 22), none⟩, ⟨some 3, .mv (.c (.int .i64 11)), none⟩])
   (.ret))
   (.skip)))
  (.seq (.ops false [⟨some 24, .mv (.t 0), none⟩, ⟨some 25, .callP 34 [(.t 24)], none⟩, ⟨some 23, .mv (.t 25), none⟩, ⟨some 26, .extract 0 (.t 23), none⟩, ⟨some 27, .extract 1 (.t 23), none⟩, ⟨some 4, .mv (.t 26), none⟩, ⟨some 5, .mv (.t 27), none⟩])
  (.seq (.seq (.ops false [⟨some 28, .mv (.t 5), none⟩, ⟨some 29, .un .not (.t 28), none⟩])
  (.cond (.t 29) (.seq (.ops false [⟨some 30, .build [.nil, .nil, .nil, .nil, .nil, .nil] [], none⟩, ⟨none, .store 6 (.t 2) (.t 30), none⟩, ⟨some 3, .mv (.c (.int .i64 12)), none⟩])
   (.ret))
   (.skip)))
  (.seq (.ops false [⟨some 32, .mv (.t 4), none⟩, ⟨some 33, .slice 1 (.t 32) (some (.c (.int .i64 4))) none none, none⟩, ⟨some 34, .callP 35 [(.t 33)], none⟩, ⟨some 31, .mv (.t 34), none⟩, ⟨some 35, .extract 0 (.t 31), none⟩, ⟨some 36, .extract 1 (.t 31), none⟩, ⟨some 6, .mv (.t 35), none⟩, ⟨some 5, .mv (.t 36), none⟩])
  (.seq (.seq (.ops false [⟨some 37, .mv (.t 5), none⟩, ⟨some 38, .un .not (.t 37), none⟩])
  (.cond (.t 38) (.seq (.ops false [⟨some 39, .build [.nil, .nil, .nil, .nil, .nil, .nil] [], none⟩, ⟨none, .store 6 (.t 2) (.t 39), none⟩, ⟨some 3, .mv (.c (.int .i64 11)), none⟩])
   (.ret))
   (.skip)))
  (.seq (.ops false [⟨some 41, .mv (.t 6), none⟩, ⟨some 42, .callP 36 [(.t 41)], none⟩, ⟨some 40, .mv (.t 42), none⟩, ⟨some 43, .extract 0 (.t 40), none⟩, ⟨some 44, .extract 1 (.t 40), none⟩, ⟨some 7, .alloc [.nil, .nil, .nil, .nil, .nil, .nil], none⟩, ⟨none, .store 6 (.t 7) (.t 43), none⟩, ⟨some 5, .mv (.t 44), none⟩])
  (.seq (.seq (.ops false [⟨some 45, .mv (.t 5), none⟩, ⟨some 46, .un .not (.t 45), none⟩])
  (.cond (.t 46) (.seq (.ops false [⟨some 47, .build [.nil, .nil, .nil, .nil, .nil, .nil] [], none⟩, ⟨none, .store 6 (.t 2) (.t 47), none⟩, ⟨some 3, .mv (.c (.int .i64 11)), none⟩])
   (.ret))
   (.skip)))
  (.seq (.ops false [⟨some 48, .load (some 6) (.t 7), none⟩, ⟨none, .store 6 (.t 2) (.t 48), none⟩, ⟨some 3, .mv (.c (.int .i64 0)), none⟩])
  (.ret)))))))))),
  [.cell 2 (some 6), .t 3]⟩

/- noria/noriaref33.Decode -/
/- noria/noriaref33.Same -/
def d_noriaref33_Same : DFun := ⟨
  .seq (.ops false [⟨some 2, .box (.t 0), none⟩, ⟨some 3, .box (.t 1), none⟩, ⟨some 4, .mv (.c (.bool false)), none⟩])
  (.seq (.ops false [⟨some 5, .load (some 6) (.t 2), none⟩, ⟨some 6, .load (some 6) (.t 3), none⟩, ⟨some 7, .callP 44 [(.t 5), (.t 6)], none⟩, ⟨some 4, .mv (.t 7), none⟩])
  (.ret)),
  [.t 4]⟩

/- noria/norialaw33.num -/
def d_norialaw33_num : DFun := ⟨
  .seq (.ops false [⟨some 2, .mv (.c (.int .i64 0)), none⟩])
  (.seq (.ops false [⟨some 3, .mv (.t 0), none⟩, ⟨some 2, .mv (.t 3), none⟩])
  (.ret)),
  [.t 2]⟩

/- noria/image.Same -/
def d_image_Same : DFun := ⟨
  .seq (.ops false [⟨some 2, .box (.t 0), none⟩, ⟨some 3, .box (.t 1), none⟩, ⟨some 4, .mv (.c (.bool false)), none⟩])
  (.seq (.ops false [⟨some 6, .faddr 1 (.t 2), none⟩, ⟨some 7, .load none (.t 6), none⟩, ⟨some 8, .faddr 1 (.t 3), none⟩, ⟨some 9, .load none (.t 8), none⟩, ⟨some 10, .callP 45 [(.t 7), (.t 9)], none⟩, ⟨some 11, .mv (.t 10), none⟩, ⟨some 12, .faddr 2 (.t 2), some (11, true)⟩, ⟨some 13, .load none (.t 12), some (11, true)⟩, ⟨some 14, .faddr 2 (.t 3), some (11, true)⟩, ⟨some 15, .load none (.t 14), some (11, true)⟩, ⟨some 16, .callP 45 [(.t 13), (.t 15)], some (11, true)⟩, ⟨some 17, .pick (.t 11) (.t 16) (.c (.bool false)), none⟩, ⟨some 5, .mv (.t 17), none⟩])
  (.seq (.ops false [⟨some 18, .mv (.t 5), none⟩, ⟨some 19, .mv (.t 18), none⟩, ⟨some 20, .faddr 0 (.t 2), some (19, true)⟩, ⟨some 21, .load none (.t 20), some (19, true)⟩, ⟨some 22, .faddr 0 (.t 3), some (19, true)⟩, ⟨some 23, .load none (.t 22), some (19, true)⟩, ⟨some 24, .callP 46 [(.t 21), (.t 23), (.c (.clo 47 []))], some (19, true)⟩, ⟨some 25, .pick (.t 19) (.t 24) (.c (.bool false)), none⟩, ⟨some 26, .mv (.t 25), none⟩, ⟨some 27, .faddr 3 (.t 2), some (26, true)⟩, ⟨some 28, .load none (.t 27), some (26, true)⟩, ⟨some 29, .faddr 3 (.t 3), some (26, true)⟩, ⟨some 30, .load none (.t 29), some (26, true)⟩, ⟨some 31, .callP 48 [(.t 28), (.t 30), (.c (.clo 49 []))], some (26, true)⟩, ⟨some 32, .pick (.t 26) (.t 31) (.c (.bool false)), none⟩, ⟨some 33, .mv (.t 32), none⟩, ⟨some 34, .faddr 4 (.t 2), some (33, true)⟩, ⟨some 35, .load none (.t 34), some (33, true)⟩, ⟨some 36, .faddr 4 (.t 3), some (33, true)⟩, ⟨some 37, .load none (.t 36), some (33, true)⟩, ⟨some 38, .callP 50 [(.t 35), (.t 37)], some (33, true)⟩, ⟨some 39, .pick (.t 33) (.t 38) (.c (.bool false)), none⟩, ⟨some 40, .mv (.t 39), none⟩, ⟨some 41, .faddr 5 (.t 2), some (40, true)⟩, ⟨some 42, .load none (.t 41), some (40, true)⟩, ⟨some 43, .faddr 5 (.t 3), some (40, true)⟩, ⟨some 44, .load none (.t 43), some (40, true)⟩, ⟨some 45, .callP 51 [(.t 42), (.t 44)], some (40, true)⟩, ⟨some 46, .pick (.t 40) (.t 45) (.c (.bool false)), none⟩, ⟨some 4, .mv (.t 46), none⟩])
  (.ret))),
  [.t 4]⟩

/- noria/noriaref05.Small -/
def d_noriaref05_Small : DFun := ⟨
  .seq (.ops false [⟨some 2, .mv (.c (.bool false)), none⟩])
  (.seq (.seq (.ops false [⟨some 5, .mv (.t 0), none⟩, ⟨some 6, .len (.t 5), none⟩, ⟨some 7, .bin .gtr (.t 6) (.c (.int .i64 8)), none⟩])
  (.cond (.t 7) (.seq (.ops false [⟨some 2, .mv (.c (.bool false)), none⟩])
   (.ret))
   (.skip)))
  (.seq (.seq (.ops false [⟨some 3, .mv (.c (.int .i64 0)), none⟩])
  (.block 0 (.loop [0, 3] (some 0) (.seq (.seq (.ops false [⟨some 8, .mv (.t 3), none⟩, ⟨some 9, .mv (.t 0), none⟩, ⟨some 10, .len (.t 9), none⟩, ⟨some 11, .bin .lss (.t 8) (.t 10), none⟩])
    (.cond (.t 11) (.skip)
     (.exit 0)))
    (.seq (.block 1 (.seq (.seq (.ops false [⟨some 14, .mv (.t 0), none⟩, ⟨some 15, .mv (.t 3), none⟩, ⟨some 16, .iaddr 2 (.t 14) (.t 15), none⟩, ⟨some 17, .faddr 1 (.t 16), none⟩, ⟨some 18, .load none (.t 17), none⟩, ⟨some 19, .len (.t 18), none⟩, ⟨some 20, .bin .gtr (.t 19) (.c (.int .i64 12)), none⟩, ⟨some 21, .mv (.t 20), none⟩, ⟨some 22, .mv (.t 0), some (21, false)⟩, ⟨some 23, .mv (.t 3), some (21, false)⟩, ⟨some 24, .iaddr 2 (.t 22) (.t 23), some (21, false)⟩, ⟨some 25, .faddr 0 (.t 24), some (21, false)⟩, ⟨some 26, .load none (.t 25), some (21, false)⟩, ⟨some 27, .lenS (.t 26), some (21, false)⟩, ⟨some 28, .bin .gtr (.t 27) (.c (.int .i64 100)), some (21, false)⟩, ⟨some 29, .pick (.t 21) (.c (.bool true)) (.t 28), none⟩])
     (.cond (.t 29) (.seq (.ops false [⟨some 2, .mv (.c (.bool false)), none⟩])
      (.ret))
      (.skip)))
     (.seq (.ops false [⟨some 4, .mv (.c (.int .i64 0)), none⟩])
     (.block 2 (.loop [0, 3, 4] (some 0) (.seq (.seq (.ops false [⟨some 30, .mv (.t 4), none⟩, ⟨some 31, .mv (.t 0), none⟩, ⟨some 32, .mv (.t 3), none⟩, ⟨some 33, .iaddr 2 (.t 31) (.t 32), none⟩, ⟨some 34, .faddr 1 (.t 33), none⟩, ⟨some 35, .load none (.t 34), none⟩, ⟨some 36, .len (.t 35), none⟩, ⟨some 37, .bin .lss (.t 30) (.t 36), none⟩])
       (.cond (.t 37) (.skip)
        (.exit 2)))
       (.seq (.block 3 (.seq (.ops false [⟨some 40, .mv (.t 0), none⟩, ⟨some 41, .mv (.t 3), none⟩, ⟨some 42, .iaddr 2 (.t 40) (.t 41), none⟩, ⟨some 43, .faddr 1 (.t 42), none⟩, ⟨some 44, .load none (.t 43), none⟩, ⟨some 45, .mv (.t 4), none⟩, ⟨some 46, .iaddr 1 (.t 44) (.t 45), none⟩, ⟨some 47, .load none (.t 46), none⟩, ⟨some 48, .lenS (.t 47), none⟩, ⟨some 49, .bin .gtr (.t 48) (.c (.int .i64 100)), none⟩])
        (.cond (.t 49) (.seq (.ops false [⟨some 2, .mv (.c (.bool false)), none⟩])
         (.ret))
         (.skip))))
       (.ops false [⟨some 38, .mv (.t 4), none⟩, ⟨some 39, .bin .add (.t 38) (.c (.int .i64 1)), none⟩, ⟨some 4, .mv (.t 39), none⟩]))))))))
    (.ops false [⟨some 12, .mv (.t 3), none⟩, ⟨some 13, .bin .add (.t 12) (.c (.int .i64 1)), none⟩, ⟨some 3, .mv (.t 13), none⟩]))))))
  (.seq (.ops false [⟨some 2, .mv (.c (.bool true)), none⟩])
  (.ret)))),
  [.t 2]⟩

/- noria/reader.New -/
def d_reader_New : DFun := ⟨
  .seq (.ops false [⟨some 0, .mv (.c (.nilp)), none⟩])
  (.seq (.ops false [⟨some 1, .build [.nil, .bool false] [(0, 1, (.c (.nil))), (1, 1, (.c (.bool true)))], none⟩, ⟨some 2, .build [.nil, .bool false] [(0, 2, (.t 1))], none⟩, ⟨some 3, .box (.t 2), none⟩, ⟨some 0, .mv (.t 3), none⟩])
  (.ret)),
  [.t 0]⟩

/- noria/image.section -/
def d_image_section : DFun := ⟨
  .seq (.ops false [⟨some 2, .box (.t 0), none⟩, ⟨some 4, .mv (.c (.nil)), none⟩, ⟨some 5, .mv (.c (.bool false)), none⟩])
  (.seq (.ops false [⟨some 7, .callH 18 [], none⟩, ⟨some 8, .build [.nilp] [(0, 1, (.t 7))], none⟩, ⟨some 6, .alloc [.nilp], none⟩, ⟨none, .store 1 (.t 6) (.t 8), none⟩])
  (.gown 7 0 1 (.seq (.seq (.ops false [⟨some 9, .mv (.t 1), none⟩])
  (.block 0 (.seq (.ops false [⟨some 16, .bin .eql (.t 9) (.c (.int .i64 1)), none⟩, ⟨some 15, .mv (.t 16), none⟩])
   (.cond (.t 15) (.ops false [⟨some 17, .load (some 1) (.t 6), none⟩, ⟨some 18, .load (some 6) (.t 2), none⟩, ⟨some 19, .callH 52 [(.t 17), (.t 18)], none⟩])
    (.seq (.ops false [⟨some 21, .bin .eql (.t 9) (.c (.int .i64 2)), none⟩, ⟨some 20, .mv (.t 21), none⟩])
    (.cond (.t 20) (.ops false [⟨some 22, .load (some 1) (.t 6), none⟩, ⟨some 23, .faddr 1 (.t 2), none⟩, ⟨some 24, .load none (.t 23), none⟩, ⟨some 25, .callH 53 [(.t 22), (.t 24)], none⟩])
     (.seq (.ops false [⟨some 27, .bin .eql (.t 9) (.c (.int .i64 3)), none⟩, ⟨some 26, .mv (.t 27), none⟩])
     (.cond (.t 26) (.ops false [⟨some 28, .load (some 1) (.t 6), none⟩, ⟨some 29, .faddr 2 (.t 2), none⟩, ⟨some 30, .load none (.t 29), none⟩, ⟨some 31, .callH 53 [(.t 28), (.t 30)], none⟩])
      (.seq (.ops false [⟨some 33, .bin .eql (.t 9) (.c (.int .i64 4)), none⟩, ⟨some 32, .mv (.t 33), none⟩])
      (.cond (.t 32) (.ops false [⟨some 34, .load (some 1) (.t 6), none⟩, ⟨some 35, .load (some 6) (.t 2), none⟩, ⟨some 36, .callH 54 [(.t 34), (.t 35)], none⟩])
       (.seq (.ops false [⟨some 38, .bin .eql (.t 9) (.c (.int .i64 5)), none⟩, ⟨some 37, .mv (.t 38), none⟩])
       (.cond (.t 37) (.ops false [⟨some 39, .load (some 1) (.t 6), none⟩, ⟨some 40, .load (some 6) (.t 2), none⟩, ⟨some 41, .callH 55 [(.t 39), (.t 40)], none⟩])
        (.seq (.ops false [⟨some 10, .faddr 5 (.t 2), none⟩, ⟨some 11, .load none (.t 10), none⟩, ⟨some 12, .callP 56 [(.t 11)], none⟩, ⟨some 13, .extract 0 (.t 12), none⟩, ⟨some 14, .extract 1 (.t 12), none⟩, ⟨some 4, .mv (.t 13), none⟩, ⟨some 5, .mv (.t 14), none⟩])
        (.ret))))))))))))))
  (.seq (.opsP [(0, ⟨some 42, .faddr 0 (.t 6), none⟩), (1, ⟨some 43, .load none (.t 42), none⟩), (3, ⟨some 45, .faddr 0 (.t 6), none⟩), (4, ⟨some 46, .load none (.t 45), none⟩), (2, ⟨some 44, .al (.callH 24 [(.t 43)]), none⟩), (5, ⟨some 47, .rd (.callH 57 [(.t 46)]), none⟩), (6, ⟨some 4, .mv (.t 44), none⟩), (7, ⟨some 5, .mv (.t 47), none⟩)])
  (.ret))))),
  [.t 4, .t 5]⟩

/- (*noria/reader.Writer).Num -/
def d_reader_Writer_Num : DFun := ⟨
  .seq (.seq (.ops false [⟨some 6, .mv (.t 0), none⟩, ⟨some 7, .callH 57 [(.t 6)], none⟩, ⟨some 8, .un .not (.t 7), none⟩])
  (.cond (.t 8) (.ret)
   (.skip)))
  (.seq (.seq (.ops false [⟨some 9, .mv (.t 2), none⟩, ⟨some 10, .bin .lss (.t 9) (.c (.int .i64 1)), none⟩, ⟨some 11, .mv (.t 10), none⟩, ⟨some 12, .mv (.t 2), some (11, false)⟩, ⟨some 13, .bin .gtr (.t 12) (.c (.int .i64 4)), some (11, false)⟩, ⟨some 14, .pick (.t 11) (.c (.bool true)) (.t 13), none⟩, ⟨some 15, .mv (.t 14), none⟩, ⟨some 16, .mv (.t 1), some (15, false)⟩, ⟨some 17, .bin .lss (.t 16) (.c (.int .i64 0)), some (15, false)⟩, ⟨some 18, .pick (.t 15) (.c (.bool true)) (.t 17), none⟩, ⟨some 19, .mv (.t 18), none⟩, ⟨some 20, .mv (.t 1), some (19, false)⟩, ⟨some 21, .mv (.t 2), some (19, false)⟩, ⟨some 22, .bin .mul (.c (.int .i64 8)) (.t 21), some (19, false)⟩, ⟨some 23, .bin .shr (.t 20) (.t 22), some (19, false)⟩, ⟨some 24, .bin .neq (.t 23) (.c (.int .i64 0)), some (19, false)⟩, ⟨some 25, .pick (.t 19) (.c (.bool true)) (.t 24), none⟩])
  (.cond (.t 25) (.seq (.ops false [⟨some 26, .mv (.t 0), none⟩, ⟨some 27, .nilck (.t 26), none⟩, ⟨some 28, .faddr 0 (.t 27), none⟩, ⟨some 29, .callH 58 [(.t 28)], none⟩])
   (.ret))
   (.skip)))
  (.ops false [⟨some 30, .mv (.t 0), none⟩, ⟨some 31, .mv (.t 1), none⟩, ⟨some 32, .conv .u64 (.t 31), none⟩, ⟨some 33, .mv (.t 2), none⟩, ⟨some 34, .callP 60 [(.t 32), (.t 33)], none⟩, ⟨some 35, .callH 59 [(.t 30), (.t 34)], none⟩])),
  []⟩

/- (*noria/reader.Writer).Part -/
def d_reader_Writer_Part : DFun := ⟨
  .seq (.ops false [⟨some 4, .mv (.t 0), none⟩, ⟨some 5, .mv (.t 1), none⟩, ⟨some 6, .len (.t 5), none⟩, ⟨some 7, .callH 20 [(.t 4), (.t 6), (.c (.int .i64 4))], none⟩])
  (.ops false [⟨some 8, .mv (.t 0), none⟩, ⟨some 9, .mv (.t 1), none⟩, ⟨some 10, .callH 59 [(.t 8), (.t 9)], none⟩]),
  []⟩

/- noria/crc.Seal -/
def d_crc_Seal : DFun := ⟨
  .seq (.ops false [⟨some 2, .mv (.c (.nil)), none⟩])
  (.seq (.ops false [⟨some 3, .mv (.t 0), none⟩, ⟨some 4, .mv (.t 0), none⟩, ⟨some 5, .callP 62 [(.t 4)], none⟩, ⟨some 6, .callP 61 [(.t 5)], none⟩, ⟨some 7, .bslice true [.nil] [(some (.t 3)), (some (.t 6))], none⟩, ⟨some 8, .callP 23 [(.t 7)], none⟩, ⟨some 2, .mv (.t 8), none⟩])
  (.ret)),
  [.t 2]⟩

/- slices.Concat[[]byte,byte] -/
def d_slices_Concat_byte_byte : DFun := ⟨
  .seq (.ops false [⟨some 2, .mv (.c (.nil)), none⟩])
  (.seq (.ops false [⟨some 3, .mv (.c (.int .i64 0)), none⟩])
  (.seq (.seq (.ops false [⟨some 9, .mv (.t 0), none⟩, ⟨some 10, .len (.t 9), none⟩, ⟨some 11, .mv (.c (.int .i64 0)), none⟩])
  (.block 0 (.loop [0, 3, 9, 10, 11] (some 0) (.seq (.ops false [⟨some 12, .bin .lss (.t 11) (.t 10), none⟩])
    (.seq (.cond (.t 12) (.skip)
     (.exit 0))
    (.seq (.block 1 (.seq (.ops false [⟨some 13, .iaddr 1 (.t 9) (.t 11), none⟩, ⟨some 14, .load none (.t 13), none⟩, ⟨some 5, .mv (.t 14), none⟩])
     (.seq (.ops false [⟨some 15, .mv (.t 3), none⟩, ⟨some 16, .mv (.t 5), none⟩, ⟨some 17, .len (.t 16), none⟩, ⟨some 18, .bin .add (.t 15) (.t 17), none⟩, ⟨some 3, .mv (.t 18), none⟩])
     (.seq (.ops false [⟨some 19, .mv (.t 3), none⟩, ⟨some 20, .bin .lss (.t 19) (.c (.int .i64 0)), none⟩])
     (.cond (.t 20) (.ops false [⟨some 21, .bad, none⟩, ⟨none, .bad, none⟩])
      (.skip))))))
    (.ops false [⟨some 22, .bin .add (.t 11) (.c (.int .i64 1)), none⟩, ⟨some 11, .mv (.t 22), none⟩])))))))
  (.seq (.ops false [⟨some 23, .mv (.t 3), none⟩, ⟨some 24, .callH 63 [(.c (.nil)), (.t 23)], none⟩, ⟨some 6, .mv (.t 24), none⟩])
  (.seq (.seq (.ops false [⟨some 25, .mv (.t 0), none⟩, ⟨some 26, .len (.t 25), none⟩, ⟨some 27, .mv (.c (.int .i64 0)), none⟩])
  (.block 2 (.loop [6, 25, 26, 27] none (.seq (.ops false [⟨some 28, .bin .lss (.t 27) (.t 26), none⟩])
    (.seq (.cond (.t 28) (.skip)
     (.exit 2))
    (.seq (.block 3 (.seq (.ops false [⟨some 29, .iaddr 1 (.t 25) (.t 27), none⟩, ⟨some 30, .load none (.t 29), none⟩, ⟨some 8, .mv (.t 30), none⟩])
     (.ops false [⟨some 31, .mv (.t 6), none⟩, ⟨some 32, .mv (.t 8), none⟩, ⟨some 33, .append 1 (.t 31) (.t 32), none⟩, ⟨some 6, .mv (.t 33), none⟩])))
    (.ops false [⟨some 34, .bin .add (.t 27) (.c (.int .i64 1)), none⟩, ⟨some 27, .mv (.t 34), none⟩])))))))
  (.seq (.ops false [⟨some 35, .mv (.t 6), none⟩, ⟨some 2, .mv (.t 35), none⟩])
  (.ret)))))),
  [.t 2]⟩

/- (*noria/reader.Writer).Bytes -/
def d_reader_Writer_Bytes : DFun := ⟨
  .seq (.ops false [⟨some 2, .mv (.c (.nil)), none⟩])
  (.seq (.seq (.ops false [⟨some 3, .mv (.t 0), none⟩, ⟨some 4, .callH 57 [(.t 3)], none⟩, ⟨some 5, .un .not (.t 4), none⟩])
  (.cond (.t 5) (.seq (.ops false [⟨some 2, .mv (.c (.nil)), none⟩])
   (.ret))
   (.skip)))
  (.seq (.ops false [⟨some 6, .mv (.t 0), none⟩, ⟨some 7, .nilck (.t 6), none⟩, ⟨some 8, .faddr 0 (.t 7), none⟩, ⟨some 9, .faddr 0 (.t 8), none⟩, ⟨some 10, .load none (.t 9), none⟩, ⟨some 11, .callH 64 [(.t 10)], none⟩, ⟨some 2, .mv (.t 11), none⟩])
  (.ret))),
  [.t 2]⟩

/- noria/noriaref28.Put -/
/- noria/noriaref33.enums -/
/- noria/noriaref33.ports -/
/- noria/noriaref33.slots -/
/- noria/noriaref33.locals -/
/- (*noria/noriaref03.W).Num -/
/- (*noria/noriaref03.W).Part -/
/- noria/noriaref02.Seal -/
/- bytes.HasPrefix -/
def d_bytes_HasPrefix : DFun := ⟨
  .seq (.ops false [⟨some 4, .mv (.c (.bool false)), none⟩])
  (.seq (.ops false [⟨some 5, .mv (.t 0), none⟩, ⟨some 6, .len (.t 5), none⟩, ⟨some 7, .mv (.t 1), none⟩, ⟨some 8, .len (.t 7), none⟩, ⟨some 9, .bin .geq (.t 6) (.t 8), none⟩, ⟨some 10, .mv (.t 9), none⟩, ⟨some 11, .mv (.t 0), some (10, true)⟩, ⟨some 12, .mv (.t 1), some (10, true)⟩, ⟨some 13, .len (.t 12), some (10, true)⟩, ⟨some 14, .slice 1 (.t 11) none (some (.t 13)) none, some (10, true)⟩, ⟨some 15, .mv (.t 1), some (10, true)⟩, ⟨some 16, .callP 74 [(.t 14), (.t 15)], some (10, true)⟩, ⟨some 17, .pick (.t 10) (.t 16) (.c (.bool false)), none⟩, ⟨some 4, .mv (.t 17), none⟩])
  (.ret)),
  [.t 4]⟩

/- noria/crc.Open -/
def d_crc_Open : DFun := ⟨
  .seq (.ops false [⟨some 2, .mv (.c (.nil)), none⟩, ⟨some 3, .mv (.c (.bool false)), none⟩])
  (.seq (.seq (.ops false [⟨some 5, .mv (.t 0), none⟩, ⟨some 6, .len (.t 5), none⟩, ⟨some 7, .bin .lss (.t 6) (.c (.int .i64 4)), none⟩])
  (.cond (.t 7) (.seq (.ops false [⟨some 2, .mv (.c (.nil)), none⟩, ⟨some 3, .mv (.c (.bool false)), none⟩])
   (.ret))
   (.skip)))
  (.seq (.ops false [⟨some 8, .mv (.t 0), none⟩, ⟨some 9, .len (.t 8), none⟩, ⟨some 10, .bin .sub (.t 9) (.c (.int .i64 4)), none⟩, ⟨some 4, .mv (.t 10), none⟩])
  (.seq (.seq (.opsP [(0, ⟨some 11, .mv (.t 0), none⟩), (1, ⟨some 12, .mv (.t 4), none⟩), (2, ⟨some 13, .slice 1 (.t 11) none (some (.t 12)) none, none⟩), (5, ⟨some 16, .mv (.t 0), none⟩), (6, ⟨some 17, .mv (.t 4), none⟩), (7, ⟨some 18, .slice 1 (.t 16) (some (.t 17)) none none, none⟩), (3, ⟨some 14, .callP 62 [(.t 13)], none⟩), (4, ⟨some 15, .callP 61 [(.t 14)], none⟩), (8, ⟨some 19, .callP 74 [(.t 15), (.t 18)], none⟩), (9, ⟨some 20, .un .not (.t 19), none⟩)])
  (.cond (.t 20) (.seq (.ops false [⟨some 2, .mv (.c (.nil)), none⟩, ⟨some 3, .mv (.c (.bool false)), none⟩])
   (.ret))
   (.skip)))
  (.seq (.ops false [⟨some 21, .mv (.t 0), none⟩, ⟨some 22, .mv (.t 4), none⟩, ⟨some 23, .slice 1 (.t 21) none (some (.t 22)) none, none⟩, ⟨some 24, .callP 64 [(.t 23)], none⟩, ⟨some 2, .mv (.t 24), none⟩, ⟨some 3, .mv (.c (.bool true)), none⟩])
  (.ret))))),
  [.t 2, .t 3]⟩

/- noria/image.parts -/
def d_image_parts : DFun := ⟨
  .seq (.ops false [⟨some 2, .mv (.c (.nil)), none⟩, ⟨some 3, .mv (.c (.bool false)), none⟩])
  (.seq (.ops false [⟨some 7, .mv (.t 0), none⟩, ⟨some 8, .callH 75 [(.t 7)], none⟩, ⟨some 4, .mv (.t 8), none⟩])
  (.seq (.ops false [⟨some 5, .mkown 1 (.c (.nil)), none⟩])
  (.seq (.seq (.ops false [⟨some 9, .mv (.c (.int .i64 0)), none⟩])
  (.block 0 (.loop [4, 5, 9] (some 2) (.seq (.ops false [⟨some 10, .bin .lss (.t 9) (.c (.int .i64 6)), none⟩])
    (.seq (.cond (.t 10) (.skip)
     (.exit 0))
    (.seq (.block 1 (.seq (.ops false [⟨some 11, .mv (.t 9), none⟩, ⟨some 6, .mv (.t 11), none⟩])
     (.seq (.seq (.ops false [⟨some 12, .mv (.t 4), none⟩, ⟨some 13, .callH 76 [(.t 12), (.c (.int .i64 1))], none⟩, ⟨some 14, .mv (.t 6), none⟩, ⟨some 15, .bin .add (.t 14) (.c (.int .i64 1)), none⟩, ⟨some 16, .bin .neq (.t 13) (.t 15), none⟩])
     (.cond (.t 16) (.seq (.ops false [⟨some 2, .mv (.c (.nil)), none⟩, ⟨some 3, .mv (.c (.bool false)), none⟩])
      (.ret))
      (.skip)))
     (.ops false [⟨some 17, .mv (.t 5), none⟩, ⟨some 18, .mv (.t 4), none⟩, ⟨some 19, .callH 77 [(.t 18)], none⟩, ⟨some 20, .bslice true [.nil] [(some (.t 19))], none⟩, ⟨some 21, .append 1 (.t 17) (.t 20), none⟩, ⟨some 5, .mv (.t 21), none⟩]))))
    (.ops false [⟨some 22, .bin .add (.t 9) (.c (.int .i64 1)), none⟩, ⟨some 9, .mv (.t 22), none⟩])))))))
  (.seq (.ops false [⟨some 23, .mv (.t 5), none⟩, ⟨some 24, .mv (.t 4), none⟩, ⟨some 25, .callH 78 [(.t 24)], none⟩, ⟨some 26, .mv (.t 25), none⟩, ⟨some 27, .mv (.t 4), some (26, true)⟩, ⟨some 28, .callH 79 [(.t 27)], some (26, true)⟩, ⟨some 29, .un .not (.t 28), some (26, true)⟩, ⟨some 30, .pick (.t 26) (.t 29) (.c (.bool false)), none⟩, ⟨some 2, .mv (.t 23), none⟩, ⟨some 3, .mv (.t 30), none⟩])
  (.ret))))),
  [.t 2, .t 3]⟩

def c_image_take_1 : DCode := (.seq (.ops false [⟨some 10, .mv (.c (.int .i64 0)), none⟩])
  (.seq (.seq (.ops false [⟨some 75, .faddr 3 (.t 7), none⟩, ⟨some 76, .load none (.t 75), none⟩, ⟨some 77, .len (.t 76), none⟩, ⟨some 78, .mv (.c (.int .i64 0)), none⟩])
  (.block 4 (.loop [0, 2, 7, 10, 77, 78] (some 10) (.seq (.ops false [⟨some 79, .bin .lss (.t 78) (.t 77), none⟩])
    (.seq (.cond (.t 79) (.skip)
     (.exit 4))
    (.seq (.block 5 (.seq (.ops false [⟨some 80, .mv (.t 78), none⟩, ⟨some 11, .mv (.t 80), none⟩])
     (.seq (.ops false [⟨some 81, .faddr 3 (.t 7), none⟩, ⟨some 82, .load none (.t 81), none⟩, ⟨some 83, .mv (.t 11), none⟩, ⟨some 84, .mv (.t 10), none⟩, ⟨some 85, .iaddr 6 (.t 82) (.t 83), none⟩, ⟨some 86, .faddr 4 (.t 85), none⟩, ⟨none, .store 1 (.t 86) (.t 84), none⟩])
     (.ops false [⟨some 87, .mv (.t 10), none⟩, ⟨some 88, .faddr 3 (.t 7), none⟩, ⟨some 89, .load none (.t 88), none⟩, ⟨some 90, .mv (.t 11), none⟩, ⟨some 91, .iaddr 6 (.t 89) (.t 90), none⟩, ⟨some 92, .faddr 1 (.t 91), none⟩, ⟨some 93, .load (some 3) (.t 92), none⟩, ⟨some 94, .callP 88 [(.t 93)], none⟩, ⟨some 95, .bin .add (.t 87) (.t 94), none⟩, ⟨some 10, .mv (.t 95), none⟩]))))
    (.ops false [⟨some 96, .bin .add (.t 78) (.c (.int .i64 1)), none⟩, ⟨some 78, .mv (.t 96), none⟩])))))))
  (.seq (.ops false [⟨some 98, .mv (.t 0), none⟩, ⟨some 99, .iaddr 1 (.t 98) (.c (.int .i64 5)), none⟩, ⟨some 100, .load none (.t 99), none⟩, ⟨some 101, .callP 89 [(.t 100)], none⟩, ⟨some 97, .mv (.t 101), none⟩, ⟨some 102, .extract 0 (.t 97), none⟩, ⟨some 103, .extract 1 (.t 97), none⟩, ⟨some 12, .mv (.t 102), none⟩, ⟨some 13, .mv (.t 103), none⟩])
  (.seq (.ops false [⟨some 104, .mv (.t 12), none⟩, ⟨some 105, .faddr 5 (.t 7), none⟩, ⟨none, .store 1 (.t 105) (.t 104), none⟩])
  (.seq (.ops false [⟨some 106, .fz (.load (some 6) (.t 7)), none⟩, ⟨some 107, .mv (.t 13), none⟩, ⟨none, .store 6 (.t 2) (.t 106), none⟩, ⟨some 3, .mv (.t 107), none⟩])
  (.ret))))))

def c_image_take_2 : DCode := (.seq (.seq (.ops false [⟨some 58, .slA 6 (.t 4) (.c (.int .i64 5)), none⟩, ⟨some 59, .len (.t 58), none⟩, ⟨some 60, .mv (.c (.int .i64 0)), none⟩])
  (.block 2 (.loop [0, 2, 7, 58, 59, 60] (some 10) (.seq (.ops false [⟨some 61, .bin .lss (.t 60) (.t 59), none⟩])
    (.seq (.cond (.t 61) (.skip)
     (.exit 2))
    (.seq (.block 3 (.seq (.ops false [⟨some 62, .iaddr 1 (.t 58) (.t 60), none⟩, ⟨some 63, .load (some 1) (.t 62), none⟩, ⟨some 9, .alloc [.nilp], none⟩, ⟨none, .store 1 (.t 9) (.t 63), none⟩])
     (.seq (.ops false [⟨some 64, .faddr 0 (.t 9), none⟩, ⟨some 65, .load none (.t 64), none⟩, ⟨some 66, .callH 78 [(.t 65)], none⟩, ⟨some 67, .un .not (.t 66), none⟩, ⟨some 68, .mv (.t 67), none⟩, ⟨some 69, .faddr 0 (.t 9), some (68, false)⟩, ⟨some 70, .load none (.t 69), some (68, false)⟩, ⟨some 71, .callH 79 [(.t 70)], some (68, false)⟩, ⟨some 72, .pick (.t 68) (.c (.bool true)) (.t 71), none⟩])
     (.cond (.t 72) (.seq (.ops false [⟨some 73, .build [.nil, .nil, .nil, .nil, .nil, .nil] [], none⟩, ⟨none, .store 6 (.t 2) (.t 73), none⟩, ⟨some 3, .mv (.c (.bool false)), none⟩])
      (.ret))
      (.skip)))))
    (.ops false [⟨some 74, .bin .add (.t 60) (.c (.int .i64 1)), none⟩, ⟨some 60, .mv (.t 74), none⟩])))))))
  (.cut [0, 2, 7] (some 10) c_image_take_1))

/- noria/image.take -/
def d_image_take : DFun := ⟨
  .seq (.ops false [⟨some 2, .alloc [.nil, .nil, .nil, .nil, .nil, .nil], none⟩, ⟨some 3, .mv (.c (.bool false)), none⟩])
  (.seq (.ops false [⟨some 4, .alloc [.nilp, .nilp, .nilp, .nilp, .nilp, .nilp], none⟩])
  (.seq (.seq (.ops false [⟨some 14, .mv (.t 0), none⟩, ⟨some 15, .len (.t 14), none⟩, ⟨some 16, .mv (.c (.int .i64 0)), none⟩])
  (.block 0 (.loop [0, 2, 4, 14, 15, 16] none (.seq (.ops false [⟨some 17, .bin .lss (.t 16) (.t 15), none⟩])
    (.seq (.cond (.t 17) (.skip)
     (.exit 0))
    (.seq (.block 1 (.seq (.ops false [⟨some 18, .mv (.t 16), none⟩, ⟨some 19, .iaddr 1 (.t 14) (.t 16), none⟩, ⟨some 20, .load none (.t 19), none⟩, ⟨some 5, .mv (.t 18), none⟩, ⟨some 6, .mv (.t 20), none⟩])
     (.ops false [⟨some 21, .mv (.t 5), none⟩, ⟨some 22, .mv (.t 6), none⟩, ⟨some 23, .callH 75 [(.t 22)], none⟩, ⟨some 24, .build [.nilp] [(0, 1, (.t 23))], none⟩, ⟨some 25, .iaddrA 6 1 (.t 4) (.t 21), none⟩, ⟨none, .store 1 (.t 25) (.t 24), none⟩])))
    (.ops false [⟨some 26, .bin .add (.t 16) (.c (.int .i64 1)), none⟩, ⟨some 16, .mv (.t 26), none⟩])))))))
  (.seq (.rsv (.opsS [] [(0, ⟨some 27, .rz 3 (.iaddrA 6 1 (.t 4) (.c (.int .i64 0))), none⟩), (1, ⟨some 28, .rz 3 (.load (some 1) (.t 27)), none⟩), (2, ⟨some 29, .rz 3 (.iaddrA 6 1 (.t 4) (.c (.int .i64 0))), none⟩), (3, ⟨some 30, .rz 3 (.load (some 1) (.t 29)), none⟩), (4, ⟨some 31, .mkmeth 81 [(.t 30)], none⟩), (6, ⟨some 33, .rz 3 (.iaddrA 6 1 (.t 4) (.c (.int .i64 1))), none⟩), (7, ⟨some 34, .rz 3 (.load (some 1) (.t 33)), none⟩), (8, ⟨some 35, .rz 3 (.iaddrA 6 1 (.t 4) (.c (.int .i64 1))), none⟩), (9, ⟨some 36, .rz 3 (.load (some 1) (.t 35)), none⟩), (10, ⟨some 37, .mkmeth 83 [(.t 36)], none⟩), (12, ⟨some 39, .rz 3 (.iaddrA 6 1 (.t 4) (.c (.int .i64 2))), none⟩), (13, ⟨some 40, .rz 3 (.load (some 1) (.t 39)), none⟩), (14, ⟨some 41, .rz 3 (.iaddrA 6 1 (.t 4) (.c (.int .i64 2))), none⟩), (15, ⟨some 42, .rz 3 (.load (some 1) (.t 41)), none⟩), (16, ⟨some 43, .mkmeth 83 [(.t 42)], none⟩), (18, ⟨some 45, .rz 3 (.iaddrA 6 1 (.t 4) (.c (.int .i64 3))), none⟩), (19, ⟨some 46, .rz 3 (.load (some 1) (.t 45)), none⟩), (20, ⟨some 47, .rz 3 (.iaddrA 6 1 (.t 4) (.c (.int .i64 3))), none⟩), (21, ⟨some 48, .rz 3 (.load (some 1) (.t 47)), none⟩), (22, ⟨some 49, .mkmeth 85 [(.t 48)], none⟩), (24, ⟨some 51, .rz 3 (.iaddrA 6 1 (.t 4) (.c (.int .i64 4))), none⟩), (25, ⟨some 52, .rz 3 (.load (some 1) (.t 51)), none⟩), (26, ⟨some 53, .rz 3 (.iaddrA 6 1 (.t 4) (.c (.int .i64 4))), none⟩), (27, ⟨some 54, .rz 3 (.load (some 1) (.t 53)), none⟩), (28, ⟨some 55, .mkmeth 87 [(.t 54)], none⟩), (5, ⟨some 32, .to 28 (.cl 28 3 80 [(.t 28), (.c (.int .i64 1)), (.t 31)]), none⟩), (11, ⟨some 38, .to 34 (.cl 34 3 82 [(.t 34), (.c (.int .i64 1)), (.t 37)]), none⟩), (17, ⟨some 44, .to 40 (.cl 40 3 82 [(.t 40), (.c (.int .i64 1)), (.t 43)]), none⟩), (23, ⟨some 50, .clo 8 46 3 84 [(.t 46), (.c (.int .i64 1)), (.t 49)], none⟩), (29, ⟨some 56, .to 52 (.cl 52 3 86 [(.t 52), (.c (.int .i64 2)), (.t 55)]), none⟩), (30, ⟨some 57, .build [.nil, .nil, .nil, .nil, .nil, .nil] [(0, 1, (.t 32)), (1, 1, (.t 38)), (2, 1, (.t 44)), (3, 1, (.t 50)), (4, 1, (.t 56))], none⟩), (31, ⟨some 7, .alloc [.nil, .nil, .nil, .nil, .nil, .nil], none⟩), (32, ⟨none, .store 6 (.t 7) (.t 57), none⟩)]))
  (.cut [0, 2, 4, 7] (some 10) c_image_take_2)))),
  [.cell 2 (some 6), .t 3]⟩

/- noria/noriaref02.Open -/
/- noria/noriaref33.sections -/
/- noria/noriaref33.getEnums -/
/- noria/noriaref33.getPorts -/
/- noria/noriaref33.getSlots -/
/- noria/noriaref33.getLocals -/
/- noria/noriaref28.Get -/
/- noria/noriaref32.Same -/
def d_noriaref32_Same : DFun := ⟨
  .seq (.ops false [⟨some 2, .box (.t 0), none⟩, ⟨some 3, .box (.t 1), none⟩, ⟨some 4, .mv (.c (.bool false)), none⟩])
  (.seq (.ops false [⟨some 5, .faddr 0 (.t 2), none⟩, ⟨some 6, .load none (.t 5), none⟩, ⟨some 7, .faddr 0 (.t 3), none⟩, ⟨some 8, .load none (.t 7), none⟩, ⟨some 9, .callP 98 [(.t 6), (.t 8)], none⟩, ⟨some 10, .mv (.t 9), none⟩, ⟨some 11, .faddr 1 (.t 2), some (10, true)⟩, ⟨some 12, .load none (.t 11), some (10, true)⟩, ⟨some 13, .faddr 1 (.t 3), some (10, true)⟩, ⟨some 14, .load none (.t 13), some (10, true)⟩, ⟨some 15, .callP 99 [(.t 12), (.t 14)], some (10, true)⟩, ⟨some 16, .pick (.t 10) (.t 15) (.c (.bool false)), none⟩, ⟨some 17, .mv (.t 16), none⟩, ⟨some 18, .faddr 2 (.t 2), some (17, true)⟩, ⟨some 19, .load none (.t 18), some (17, true)⟩, ⟨some 20, .faddr 2 (.t 3), some (17, true)⟩, ⟨some 21, .load none (.t 20), some (17, true)⟩, ⟨some 22, .callP 99 [(.t 19), (.t 21)], some (17, true)⟩, ⟨some 23, .pick (.t 17) (.t 22) (.c (.bool false)), none⟩, ⟨some 24, .mv (.t 23), none⟩, ⟨some 25, .faddr 3 (.t 2), some (24, true)⟩, ⟨some 26, .load none (.t 25), some (24, true)⟩, ⟨some 27, .faddr 3 (.t 3), some (24, true)⟩, ⟨some 28, .load none (.t 27), some (24, true)⟩, ⟨some 29, .callP 100 [(.t 26), (.t 28)], some (24, true)⟩, ⟨some 30, .pick (.t 24) (.t 29) (.c (.bool false)), none⟩, ⟨some 31, .mv (.t 30), none⟩, ⟨some 32, .faddr 4 (.t 2), some (31, true)⟩, ⟨some 33, .load none (.t 32), some (31, true)⟩, ⟨some 34, .faddr 4 (.t 3), some (31, true)⟩, ⟨some 35, .load none (.t 34), some (31, true)⟩, ⟨some 36, .callP 101 [(.t 33), (.t 35)], some (31, true)⟩, ⟨some 37, .pick (.t 31) (.t 36) (.c (.bool false)), none⟩, ⟨some 38, .mv (.t 37), none⟩, ⟨some 39, .faddr 5 (.t 2), some (38, true)⟩, ⟨some 40, .load none (.t 39), some (38, true)⟩, ⟨some 41, .faddr 5 (.t 3), some (38, true)⟩, ⟨some 42, .load none (.t 41), some (38, true)⟩, ⟨some 43, .callP 102 [(.t 40), (.t 42)], some (38, true)⟩, ⟨some 44, .pick (.t 38) (.t 43) (.c (.bool false)), none⟩, ⟨some 4, .mv (.t 44), none⟩])
  (.ret)),
  [.t 4]⟩

/- slices.Equal[[]noria/api.Port,noria/api.Port] -/
def d_slices_Equal_api_Port_api_Port : DFun := ⟨
  .seq (.ops false [⟨some 4, .mv (.c (.bool false)), none⟩])
  (.seq (.seq (.ops false [⟨some 6, .mv (.t 0), none⟩, ⟨some 7, .len (.t 6), none⟩, ⟨some 8, .mv (.t 1), none⟩, ⟨some 9, .len (.t 8), none⟩, ⟨some 10, .bin .neq (.t 7) (.t 9), none⟩])
  (.cond (.t 10) (.seq (.ops false [⟨some 4, .mv (.c (.bool false)), none⟩])
   (.ret))
   (.skip)))
  (.seq (.seq (.ops false [⟨some 11, .mv (.t 0), none⟩, ⟨some 12, .len (.t 11), none⟩, ⟨some 13, .mv (.c (.int .i64 0)), none⟩])
  (.block 0 (.loop [0, 1, 12, 13] (some 0) (.seq (.ops false [⟨some 14, .bin .lss (.t 13) (.t 12), none⟩])
    (.seq (.cond (.t 14) (.skip)
     (.exit 0))
    (.seq (.block 1 (.seq (.ops false [⟨some 15, .mv (.t 13), none⟩, ⟨some 5, .mv (.t 15), none⟩])
     (.seq (.ops true [⟨some 16, .mv (.t 0), none⟩, ⟨some 17, .mv (.t 5), none⟩, ⟨some 18, .iaddr 4 (.t 16) (.t 17), none⟩, ⟨some 19, .load (some 4) (.t 18), none⟩, ⟨some 20, .mv (.t 1), none⟩, ⟨some 21, .mv (.t 5), none⟩, ⟨some 22, .iaddr 4 (.t 20) (.t 21), none⟩, ⟨some 23, .load (some 4) (.t 22), none⟩, ⟨some 24, .aeq true [2, 0, 0, 0] (.t 19) (.t 23), none⟩])
     (.cond (.t 24) (.seq (.ops false [⟨some 4, .mv (.c (.bool false)), none⟩])
      (.ret))
      (.skip)))))
    (.ops false [⟨some 25, .bin .add (.t 13) (.c (.int .i64 1)), none⟩, ⟨some 13, .mv (.t 25), none⟩])))))))
  (.seq (.ops false [⟨some 4, .mv (.c (.bool true)), none⟩])
  (.ret)))),
  [.t 4]⟩

/- slices.EqualFunc[[]noria/api.Enum,[]noria/api.Enum,noria/api.Enum,noria/api.Enum] -/
def d_slices_EqualFunc_api_Enum_api_Enum_api_Enum_api_Enum : DFun := ⟨
  .seq (.ops false [⟨some 6, .mv (.c (.bool false)), none⟩])
  (.seq (.seq (.ops false [⟨some 10, .mv (.t 0), none⟩, ⟨some 11, .len (.t 10), none⟩, ⟨some 12, .mv (.t 1), none⟩, ⟨some 13, .len (.t 12), none⟩, ⟨some 14, .bin .neq (.t 11) (.t 13), none⟩])
  (.cond (.t 14) (.seq (.ops false [⟨some 6, .mv (.c (.bool false)), none⟩])
   (.ret))
   (.skip)))
  (.seq (.seq (.ops false [⟨some 15, .mv (.t 0), none⟩, ⟨some 16, .len (.t 15), none⟩, ⟨some 17, .mv (.c (.int .i64 0)), none⟩])
  (.block 0 (.loop [1, 2, 15, 16, 17] (some 0) (.seq (.ops false [⟨some 18, .bin .lss (.t 17) (.t 16), none⟩])
    (.seq (.cond (.t 18) (.skip)
     (.exit 0))
    (.seq (.block 1 (.seq (.ops false [⟨some 19, .mv (.t 17), none⟩, ⟨some 20, .iaddr 2 (.t 15) (.t 17), none⟩, ⟨some 21, .load (some 2) (.t 20), none⟩, ⟨some 8, .alloc [.str [], .nil], none⟩, ⟨some 7, .mv (.t 19), none⟩, ⟨none, .store 2 (.t 8) (.t 21), none⟩])
     (.seq (.ops false [⟨some 22, .mv (.t 1), none⟩, ⟨some 23, .mv (.t 7), none⟩, ⟨some 24, .iaddr 2 (.t 22) (.t 23), none⟩, ⟨some 25, .load (some 2) (.t 24), none⟩, ⟨some 9, .alloc [.str [], .nil], none⟩, ⟨none, .store 2 (.t 9) (.t 25), none⟩])
     (.seq (.ops false [⟨some 26, .mv (.t 2), none⟩, ⟨some 27, .load (some 2) (.t 8), none⟩, ⟨some 28, .load (some 2) (.t 9), none⟩, ⟨some 29, .callvP (.t 26) [(.t 27), (.t 28)], none⟩, ⟨some 30, .un .not (.t 29), none⟩])
     (.cond (.t 30) (.seq (.ops false [⟨some 6, .mv (.c (.bool false)), none⟩])
      (.ret))
      (.skip))))))
    (.ops false [⟨some 31, .bin .add (.t 17) (.c (.int .i64 1)), none⟩, ⟨some 17, .mv (.t 31), none⟩])))))))
  (.seq (.ops false [⟨some 6, .mv (.c (.bool true)), none⟩])
  (.ret)))),
  [.t 6]⟩

/- noria/image.sameEnum -/
def d_image_sameEnum : DFun := ⟨
  .seq (.ops false [⟨some 2, .box (.t 0), none⟩, ⟨some 3, .box (.t 1), none⟩, ⟨some 4, .mv (.c (.bool false)), none⟩])
  (.seq (.ops false [⟨some 5, .faddr 0 (.t 2), none⟩, ⟨some 6, .load none (.t 5), none⟩, ⟨some 7, .faddr 0 (.t 3), none⟩, ⟨some 8, .load none (.t 7), none⟩, ⟨some 9, .bin .eql (.t 6) (.t 8), none⟩, ⟨some 10, .mv (.t 9), none⟩, ⟨some 11, .faddr 1 (.t 2), some (10, true)⟩, ⟨some 12, .load none (.t 11), some (10, true)⟩, ⟨some 13, .faddr 1 (.t 3), some (10, true)⟩, ⟨some 14, .load none (.t 13), some (10, true)⟩, ⟨some 15, .callP 103 [(.t 12), (.t 14)], some (10, true)⟩, ⟨some 16, .pick (.t 10) (.t 15) (.c (.bool false)), none⟩, ⟨some 4, .mv (.t 16), none⟩])
  (.ret)),
  [.t 4]⟩

/- slices.EqualFunc[[]noria/api.Slot,[]noria/api.Slot,noria/api.Slot,noria/api.Slot] -/
def d_slices_EqualFunc_api_Slot_api_Slot_api_Slot_api_Slot : DFun := ⟨
  .seq (.ops false [⟨some 6, .mv (.c (.bool false)), none⟩])
  (.seq (.seq (.ops false [⟨some 10, .mv (.t 0), none⟩, ⟨some 11, .len (.t 10), none⟩, ⟨some 12, .mv (.t 1), none⟩, ⟨some 13, .len (.t 12), none⟩, ⟨some 14, .bin .neq (.t 11) (.t 13), none⟩])
  (.cond (.t 14) (.seq (.ops false [⟨some 6, .mv (.c (.bool false)), none⟩])
   (.ret))
   (.skip)))
  (.seq (.seq (.ops false [⟨some 15, .mv (.t 0), none⟩, ⟨some 16, .len (.t 15), none⟩, ⟨some 17, .mv (.c (.int .i64 0)), none⟩])
  (.block 0 (.loop [1, 2, 15, 16, 17] (some 0) (.seq (.ops false [⟨some 18, .bin .lss (.t 17) (.t 16), none⟩])
    (.seq (.cond (.t 18) (.skip)
     (.exit 0))
    (.seq (.block 1 (.seq (.ops false [⟨some 19, .mv (.t 17), none⟩, ⟨some 20, .iaddr 6 (.t 15) (.t 17), none⟩, ⟨some 21, .load (some 6) (.t 20), none⟩, ⟨some 8, .alloc [.str [], .int .i64 0, .int .i64 0, .int .i64 0, .int .i64 0, .nil], none⟩, ⟨some 7, .mv (.t 19), none⟩, ⟨none, .store 6 (.t 8) (.t 21), none⟩])
     (.seq (.ops false [⟨some 22, .mv (.t 1), none⟩, ⟨some 23, .mv (.t 7), none⟩, ⟨some 24, .iaddr 6 (.t 22) (.t 23), none⟩, ⟨some 25, .load (some 6) (.t 24), none⟩, ⟨some 9, .alloc [.str [], .int .i64 0, .int .i64 0, .int .i64 0, .int .i64 0, .nil], none⟩, ⟨none, .store 6 (.t 9) (.t 25), none⟩])
     (.seq (.ops false [⟨some 26, .mv (.t 2), none⟩, ⟨some 27, .load (some 6) (.t 8), none⟩, ⟨some 28, .load (some 6) (.t 9), none⟩, ⟨some 29, .callvP (.t 26) [(.t 27), (.t 28)], none⟩, ⟨some 30, .un .not (.t 29), none⟩])
     (.cond (.t 30) (.seq (.ops false [⟨some 6, .mv (.c (.bool false)), none⟩])
      (.ret))
      (.skip))))))
    (.ops false [⟨some 31, .bin .add (.t 17) (.c (.int .i64 1)), none⟩, ⟨some 17, .mv (.t 31), none⟩])))))))
  (.seq (.ops false [⟨some 6, .mv (.c (.bool true)), none⟩])
  (.ret)))),
  [.t 6]⟩

/- noria/image.sameSlot -/
def d_image_sameSlot : DFun := ⟨
  .seq (.ops false [⟨some 2, .box (.t 0), none⟩, ⟨some 3, .box (.t 1), none⟩, ⟨some 4, .mv (.c (.bool false)), none⟩])
  (.seq (.ops false [⟨some 5, .faddr 0 (.t 2), none⟩, ⟨some 6, .load none (.t 5), none⟩, ⟨some 7, .faddr 0 (.t 3), none⟩, ⟨some 8, .load none (.t 7), none⟩, ⟨some 9, .bin .eql (.t 6) (.t 8), none⟩, ⟨some 10, .mv (.t 9), none⟩, ⟨some 11, .faddr 1 (.t 2), some (10, true)⟩, ⟨some 12, .load (some 3) (.t 11), some (10, true)⟩, ⟨some 13, .faddr 1 (.t 3), some (10, true)⟩, ⟨some 14, .load (some 3) (.t 13), some (10, true)⟩, ⟨some 15, .aeq false [0, 0, 0] (.t 12) (.t 14), some (10, true)⟩, ⟨some 16, .pick (.t 10) (.t 15) (.c (.bool false)), none⟩, ⟨some 17, .mv (.t 16), none⟩, ⟨some 18, .faddr 4 (.t 2), some (17, true)⟩, ⟨some 19, .load none (.t 18), some (17, true)⟩, ⟨some 20, .faddr 4 (.t 3), some (17, true)⟩, ⟨some 21, .load none (.t 20), some (17, true)⟩, ⟨some 22, .bin .eql (.t 19) (.t 21), some (17, true)⟩, ⟨some 23, .pick (.t 17) (.t 22) (.c (.bool false)), none⟩, ⟨some 24, .mv (.t 23), none⟩, ⟨some 25, .faddr 5 (.t 2), some (24, true)⟩, ⟨some 26, .load none (.t 25), some (24, true)⟩, ⟨some 27, .faddr 5 (.t 3), some (24, true)⟩, ⟨some 28, .load none (.t 27), some (24, true)⟩, ⟨some 29, .callP 104 [(.t 26), (.t 28)], some (24, true)⟩, ⟨some 30, .pick (.t 24) (.t 29) (.c (.bool false)), none⟩, ⟨some 4, .mv (.t 30), none⟩])
  (.ret)),
  [.t 4]⟩

/- slices.Equal[[]int,int] -/
def d_slices_Equal_int_int : DFun := ⟨
  .seq (.ops false [⟨some 4, .mv (.c (.bool false)), none⟩])
  (.seq (.seq (.ops false [⟨some 6, .mv (.t 0), none⟩, ⟨some 7, .len (.t 6), none⟩, ⟨some 8, .mv (.t 1), none⟩, ⟨some 9, .len (.t 8), none⟩, ⟨some 10, .bin .neq (.t 7) (.t 9), none⟩])
  (.cond (.t 10) (.seq (.ops false [⟨some 4, .mv (.c (.bool false)), none⟩])
   (.ret))
   (.skip)))
  (.seq (.seq (.ops false [⟨some 11, .mv (.t 0), none⟩, ⟨some 12, .len (.t 11), none⟩, ⟨some 13, .mv (.c (.int .i64 0)), none⟩])
  (.block 0 (.loop [0, 1, 12, 13] (some 0) (.seq (.ops false [⟨some 14, .bin .lss (.t 13) (.t 12), none⟩])
    (.seq (.cond (.t 14) (.skip)
     (.exit 0))
    (.seq (.block 1 (.seq (.ops false [⟨some 15, .mv (.t 13), none⟩, ⟨some 5, .mv (.t 15), none⟩])
     (.seq (.ops true [⟨some 16, .mv (.t 0), none⟩, ⟨some 17, .mv (.t 5), none⟩, ⟨some 18, .iaddr 1 (.t 16) (.t 17), none⟩, ⟨some 19, .load none (.t 18), none⟩, ⟨some 20, .mv (.t 1), none⟩, ⟨some 21, .mv (.t 5), none⟩, ⟨some 22, .iaddr 1 (.t 20) (.t 21), none⟩, ⟨some 23, .load none (.t 22), none⟩, ⟨some 24, .bin .neq (.t 19) (.t 23), none⟩])
     (.cond (.t 24) (.seq (.ops false [⟨some 4, .mv (.c (.bool false)), none⟩])
      (.ret))
      (.skip)))))
    (.ops false [⟨some 25, .bin .add (.t 13) (.c (.int .i64 1)), none⟩, ⟨some 13, .mv (.t 25), none⟩])))))))
  (.seq (.ops false [⟨some 4, .mv (.c (.bool true)), none⟩])
  (.ret)))),
  [.t 4]⟩

/- slices.Equal[[]noria/api.Instr,noria/api.Instr] -/
def d_slices_Equal_api_Instr_api_Instr : DFun := ⟨
  .seq (.ops false [⟨some 4, .mv (.c (.bool false)), none⟩])
  (.seq (.seq (.ops false [⟨some 6, .mv (.t 0), none⟩, ⟨some 7, .len (.t 6), none⟩, ⟨some 8, .mv (.t 1), none⟩, ⟨some 9, .len (.t 8), none⟩, ⟨some 10, .bin .neq (.t 7) (.t 9), none⟩])
  (.cond (.t 10) (.seq (.ops false [⟨some 4, .mv (.c (.bool false)), none⟩])
   (.ret))
   (.skip)))
  (.seq (.seq (.ops false [⟨some 11, .mv (.t 0), none⟩, ⟨some 12, .len (.t 11), none⟩, ⟨some 13, .mv (.c (.int .i64 0)), none⟩])
  (.block 0 (.loop [0, 1, 12, 13] (some 0) (.seq (.ops false [⟨some 14, .bin .lss (.t 13) (.t 12), none⟩])
    (.seq (.cond (.t 14) (.skip)
     (.exit 0))
    (.seq (.block 1 (.seq (.ops false [⟨some 15, .mv (.t 13), none⟩, ⟨some 5, .mv (.t 15), none⟩])
     (.seq (.ops true [⟨some 16, .mv (.t 0), none⟩, ⟨some 17, .mv (.t 5), none⟩, ⟨some 18, .iaddr 4 (.t 16) (.t 17), none⟩, ⟨some 19, .load (some 4) (.t 18), none⟩, ⟨some 20, .mv (.t 1), none⟩, ⟨some 21, .mv (.t 5), none⟩, ⟨some 22, .iaddr 4 (.t 20) (.t 21), none⟩, ⟨some 23, .load (some 4) (.t 22), none⟩, ⟨some 24, .aeq true [0, 0, 0, 0] (.t 19) (.t 23), none⟩])
     (.cond (.t 24) (.seq (.ops false [⟨some 4, .mv (.c (.bool false)), none⟩])
      (.ret))
      (.skip)))))
    (.ops false [⟨some 25, .bin .add (.t 13) (.c (.int .i64 1)), none⟩, ⟨some 13, .mv (.t 25), none⟩])))))))
  (.seq (.ops false [⟨some 4, .mv (.c (.bool true)), none⟩])
  (.ret)))),
  [.t 4]⟩

/- (noria/image.writer).enums -/
def d_image_writer_enums : DFun := ⟨
  .seq (.ops false [⟨some 2, .box (.t 0), none⟩, ⟨some 3, .bref (.t 1), none⟩])
  (.seq (.ops false [⟨some 8, .faddr 0 (.t 2), none⟩, ⟨some 9, .load none (.t 8), none⟩, ⟨some 10, .faddr 0 (.t 3), none⟩, ⟨some 11, .load none (.t 10), none⟩, ⟨some 12, .len (.t 11), none⟩, ⟨some 13, .callH 20 [(.t 9), (.t 12), (.c (.int .i64 1))], none⟩])
  (.seq (.ops false [⟨some 14, .faddr 0 (.t 3), none⟩, ⟨some 15, .load none (.t 14), none⟩, ⟨some 16, .len (.t 15), none⟩, ⟨some 17, .mv (.c (.int .i64 0)), none⟩])
  (.block 0 (.loop [2, 15, 16, 17] none (.seq (.ops false [⟨some 18, .bin .lss (.t 17) (.t 16), none⟩])
    (.seq (.cond (.t 18) (.skip)
     (.exit 0))
    (.seq (.block 1 (.seq (.ops false [⟨some 19, .iaddr 2 (.t 15) (.t 17), none⟩, ⟨some 20, .load (some 2) (.t 19), none⟩, ⟨some 5, .alloc [.str [], .nil], none⟩, ⟨none, .store 2 (.t 5) (.t 20), none⟩])
     (.seq (.ops false [⟨some 21, .faddr 0 (.t 2), none⟩, ⟨some 22, .load none (.t 21), none⟩, ⟨some 23, .faddr 0 (.t 5), none⟩, ⟨some 24, .load none (.t 23), none⟩, ⟨some 25, .callH 105 [(.t 22), (.t 24)], none⟩])
     (.seq (.ops false [⟨some 26, .faddr 0 (.t 2), none⟩, ⟨some 27, .load none (.t 26), none⟩, ⟨some 28, .faddr 1 (.t 5), none⟩, ⟨some 29, .load none (.t 28), none⟩, ⟨some 30, .len (.t 29), none⟩, ⟨some 31, .callH 20 [(.t 27), (.t 30), (.c (.int .i64 1))], none⟩])
     (.seq (.ops false [⟨some 32, .faddr 1 (.t 5), none⟩, ⟨some 33, .load none (.t 32), none⟩, ⟨some 34, .len (.t 33), none⟩, ⟨some 35, .mv (.c (.int .i64 0)), none⟩])
     (.block 2 (.loop [2, 15, 16, 17, 33, 34, 35] none (.seq (.ops false [⟨some 36, .bin .lss (.t 35) (.t 34), none⟩])
       (.seq (.cond (.t 36) (.skip)
        (.exit 2))
       (.seq (.block 3 (.seq (.ops false [⟨some 37, .iaddr 1 (.t 33) (.t 35), none⟩, ⟨some 38, .load none (.t 37), none⟩, ⟨some 7, .mv (.t 38), none⟩])
        (.ops false [⟨some 39, .faddr 0 (.t 2), none⟩, ⟨some 40, .load none (.t 39), none⟩, ⟨some 41, .mv (.t 7), none⟩, ⟨some 42, .callH 105 [(.t 40), (.t 41)], none⟩])))
       (.ops false [⟨some 43, .bin .add (.t 35) (.c (.int .i64 1)), none⟩, ⟨some 35, .mv (.t 43), none⟩])))))))))))
    (.ops false [⟨some 44, .bin .add (.t 17) (.c (.int .i64 1)), none⟩, ⟨some 17, .mv (.t 44), none⟩])))))))),
  []⟩

/- (noria/image.writer).ports -/
def d_image_writer_ports : DFun := ⟨
  .seq (.ops false [⟨some 2, .box (.t 0), none⟩])
  (.seq (.ops false [⟨some 6, .faddr 0 (.t 2), none⟩, ⟨some 7, .load none (.t 6), none⟩, ⟨some 8, .mv (.t 1), none⟩, ⟨some 9, .len (.t 8), none⟩, ⟨some 10, .callH 20 [(.t 7), (.t 9), (.c (.int .i64 1))], none⟩])
  (.seq (.ops false [⟨some 11, .mv (.t 1), none⟩, ⟨some 12, .len (.t 11), none⟩, ⟨some 13, .mv (.c (.int .i64 0)), none⟩])
  (.block 0 (.loop [2, 11, 12, 13] none (.seq (.ops false [⟨some 14, .bin .lss (.t 13) (.t 12), none⟩])
    (.seq (.cond (.t 14) (.skip)
     (.exit 0))
    (.seq (.block 1 (.seq (.ops false [⟨some 15, .iaddr 4 (.t 11) (.t 13), none⟩, ⟨some 16, .load (some 4) (.t 15), none⟩, ⟨some 5, .alloc [.str [], .int .i64 0, .int .i64 0, .int .i64 0], none⟩, ⟨none, .store 4 (.t 5) (.t 16), none⟩])
     (.seq (.ops false [⟨some 17, .faddr 0 (.t 2), none⟩, ⟨some 18, .load none (.t 17), none⟩, ⟨some 19, .faddr 0 (.t 5), none⟩, ⟨some 20, .load none (.t 19), none⟩, ⟨some 21, .callH 105 [(.t 18), (.t 20)], none⟩])
     (.ops false [⟨some 22, .load (some 1) (.t 2), none⟩, ⟨some 23, .faddr 1 (.t 5), none⟩, ⟨some 24, .load (some 3) (.t 23), none⟩, ⟨some 25, .callH 106 [(.t 22), (.t 24)], none⟩]))))
    (.ops false [⟨some 26, .bin .add (.t 13) (.c (.int .i64 1)), none⟩, ⟨some 13, .mv (.t 26), none⟩])))))))),
  []⟩

/- (noria/image.writer).slots -/
def d_image_writer_slots : DFun := ⟨
  .seq (.ops false [⟨some 2, .box (.t 0), none⟩, ⟨some 3, .bref (.t 1), none⟩])
  (.seq (.ops false [⟨some 4, .mv (.c (.int .i64 0)), none⟩])
  (.seq (.ops false [⟨some 9, .faddr 0 (.t 2), none⟩, ⟨some 10, .load none (.t 9), none⟩, ⟨some 11, .faddr 3 (.t 3), none⟩, ⟨some 12, .load none (.t 11), none⟩, ⟨some 13, .len (.t 12), none⟩, ⟨some 14, .callH 20 [(.t 10), (.t 13), (.c (.int .i64 1))], none⟩])
  (.seq (.ops false [⟨some 15, .faddr 3 (.t 3), none⟩, ⟨some 16, .load none (.t 15), none⟩, ⟨some 17, .len (.t 16), none⟩, ⟨some 18, .mv (.c (.int .i64 0)), none⟩])
  (.block 0 (.loop [2, 4, 16, 17, 18] none (.seq (.ops false [⟨some 19, .bin .lss (.t 18) (.t 17), none⟩])
    (.seq (.cond (.t 19) (.skip)
     (.exit 0))
    (.seq (.block 1 (.seq (.ops false [⟨some 20, .iaddr 6 (.t 16) (.t 18), none⟩, ⟨some 21, .load (some 6) (.t 20), none⟩, ⟨some 6, .alloc [.str [], .int .i64 0, .int .i64 0, .int .i64 0, .int .i64 0, .nil], none⟩, ⟨none, .store 6 (.t 6) (.t 21), none⟩])
     (.seq (.ops false [⟨some 22, .faddr 0 (.t 2), none⟩, ⟨some 23, .load none (.t 22), none⟩, ⟨some 24, .faddr 0 (.t 6), none⟩, ⟨some 25, .load none (.t 24), none⟩, ⟨some 26, .callH 105 [(.t 23), (.t 25)], none⟩])
     (.seq (.ops false [⟨some 27, .load (some 1) (.t 2), none⟩, ⟨some 28, .faddr 1 (.t 6), none⟩, ⟨some 29, .load (some 3) (.t 28), none⟩, ⟨some 30, .callH 106 [(.t 27), (.t 29)], none⟩])
     (.seq (.ops false [⟨some 31, .faddr 0 (.t 2), none⟩, ⟨some 32, .load none (.t 31), none⟩, ⟨some 33, .faddr 5 (.t 6), none⟩, ⟨some 34, .load none (.t 33), none⟩, ⟨some 35, .len (.t 34), none⟩, ⟨some 36, .callH 20 [(.t 32), (.t 35), (.c (.int .i64 1))], none⟩])
     (.seq (.seq (.ops false [⟨some 37, .faddr 5 (.t 6), none⟩, ⟨some 38, .load none (.t 37), none⟩, ⟨some 39, .len (.t 38), none⟩, ⟨some 40, .mv (.c (.int .i64 0)), none⟩])
     (.block 2 (.loop [2, 4, 6, 16, 17, 18, 38, 39, 40] none (.seq (.ops false [⟨some 41, .bin .lss (.t 40) (.t 39), none⟩])
       (.seq (.cond (.t 41) (.skip)
        (.exit 2))
       (.seq (.block 3 (.seq (.ops false [⟨some 42, .iaddr 1 (.t 38) (.t 40), none⟩, ⟨some 43, .load none (.t 42), none⟩, ⟨some 8, .mv (.t 43), none⟩])
        (.ops false [⟨some 44, .faddr 0 (.t 2), none⟩, ⟨some 45, .load none (.t 44), none⟩, ⟨some 46, .mv (.t 8), none⟩, ⟨some 47, .callH 107 [(.t 45), (.t 46)], none⟩])))
       (.ops false [⟨some 48, .bin .add (.t 40) (.c (.int .i64 1)), none⟩, ⟨some 40, .mv (.t 48), none⟩])))))))
     (.seq (.seq (.ops false [⟨some 49, .faddr 4 (.t 6), none⟩, ⟨some 50, .load none (.t 49), none⟩, ⟨some 51, .mv (.t 4), none⟩, ⟨some 52, .bin .neq (.t 50) (.t 51), none⟩])
     (.cond (.t 52) (.ops false [⟨some 53, .faddr 0 (.t 2), none⟩, ⟨some 54, .load none (.t 53), none⟩, ⟨some 55, .callH 20 [(.t 54), (.c (.int .i64 (-1))), (.c (.int .i64 1))], none⟩])
      (.skip)))
     (.ops false [⟨some 56, .mv (.t 4), none⟩, ⟨some 57, .faddr 1 (.t 6), none⟩, ⟨some 58, .load (some 3) (.t 57), none⟩, ⟨some 59, .callP 88 [(.t 58)], none⟩, ⟨some 60, .bin .add (.t 56) (.t 59), none⟩, ⟨some 4, .mv (.t 60), none⟩]))))))))
    (.ops false [⟨some 61, .bin .add (.t 18) (.c (.int .i64 1)), none⟩, ⟨some 18, .mv (.t 61), none⟩]))))))))),
  []⟩

/- (noria/image.writer).locals -/
def d_image_writer_locals : DFun := ⟨
  .seq (.ops false [⟨some 2, .box (.t 0), none⟩, ⟨some 3, .bref (.t 1), none⟩])
  (.seq (.ops false [⟨some 6, .faddr 0 (.t 2), none⟩, ⟨some 7, .load none (.t 6), none⟩, ⟨some 8, .faddr 4 (.t 3), none⟩, ⟨some 9, .load none (.t 8), none⟩, ⟨some 10, .len (.t 9), none⟩, ⟨some 11, .callH 20 [(.t 7), (.t 10), (.c (.int .i64 2))], none⟩])
  (.seq (.ops false [⟨some 12, .faddr 4 (.t 3), none⟩, ⟨some 13, .load none (.t 12), none⟩, ⟨some 14, .len (.t 13), none⟩, ⟨some 15, .mv (.c (.int .i64 0)), none⟩])
  (.block 0 (.loop [2, 13, 14, 15] none (.seq (.ops false [⟨some 16, .bin .lss (.t 15) (.t 14), none⟩])
    (.seq (.cond (.t 16) (.skip)
     (.exit 0))
    (.seq (.block 1 (.seq (.ops false [⟨some 17, .iaddr 1 (.t 13) (.t 15), none⟩, ⟨some 18, .load none (.t 17), none⟩, ⟨some 5, .mv (.t 18), none⟩])
     (.ops false [⟨some 19, .faddr 0 (.t 2), none⟩, ⟨some 20, .load none (.t 19), none⟩, ⟨some 21, .mv (.t 5), none⟩, ⟨some 22, .callH 20 [(.t 20), (.t 21), (.c (.int .i64 2))], none⟩])))
    (.ops false [⟨some 23, .bin .add (.t 15) (.c (.int .i64 1)), none⟩, ⟨some 15, .mv (.t 23), none⟩])))))))),
  []⟩

/- noria/instr.Put -/
def d_instr_Put : DFun := ⟨
  .seq (.ops false [⟨some 2, .mv (.c (.nil)), none⟩, ⟨some 3, .mv (.c (.bool false)), none⟩])
  (.seq (.ops false [⟨some 7, .callH 18 [], none⟩, ⟨some 8, .build [.nilp] [(0, 1, (.t 7))], none⟩, ⟨some 4, .alloc [.nilp], none⟩, ⟨none, .store 1 (.t 4) (.t 8), none⟩])
  (.gown 7 0 1 (.seq (.seq (.ops false [⟨some 9, .mv (.t 0), none⟩, ⟨some 10, .len (.t 9), none⟩, ⟨some 11, .mv (.c (.int .i64 0)), none⟩])
  (.block 0 (.loop [0, 4, 9, 10, 11] (some 3) (.seq (.ops false [⟨some 12, .bin .lss (.t 11) (.t 10), none⟩])
    (.seq (.cond (.t 12) (.skip)
     (.exit 0))
    (.seq (.block 1 (.seq (.ops false [⟨some 13, .iaddr 4 (.t 9) (.t 11), none⟩, ⟨some 14, .load (some 4) (.t 13), none⟩, ⟨some 6, .alloc [.int .i64 0, .int .i64 0, .int .i64 0, .int .i64 0], none⟩, ⟨none, .store 4 (.t 6) (.t 14), none⟩])
     (.seq (.seq (.ops false [⟨some 15, .load (some 4) (.t 6), none⟩, ⟨some 16, .callP 108 [(.t 15)], none⟩, ⟨some 17, .un .not (.t 16), none⟩])
     (.cond (.t 17) (.seq (.ops false [⟨some 2, .mv (.c (.nil)), none⟩, ⟨some 3, .mv (.c (.bool false)), none⟩])
      (.ret))
      (.skip)))
     (.ops false [⟨some 18, .load (some 1) (.t 4), none⟩, ⟨some 19, .load (some 4) (.t 6), none⟩, ⟨some 20, .callH 109 [(.t 18), (.t 19)], none⟩]))))
    (.ops false [⟨some 21, .bin .add (.t 11) (.c (.int .i64 1)), none⟩, ⟨some 11, .mv (.t 21), none⟩])))))))
  (.seq (.seq (.ops false [⟨some 22, .mv (.t 0), none⟩, ⟨some 23, .len (.t 22), none⟩, ⟨some 24, .bin .gtr (.t 23) (.c (.int .i64 6000)), none⟩])
  (.cond (.t 24) (.seq (.ops false [⟨some 2, .mv (.c (.nil)), none⟩, ⟨some 3, .mv (.c (.bool false)), none⟩])
   (.ret))
   (.skip)))
  (.seq (.ops false [⟨some 25, .faddr 0 (.t 4), none⟩, ⟨some 26, .load none (.t 25), none⟩, ⟨some 27, .callH 24 [(.t 26)], none⟩, ⟨some 2, .mv (.t 27), none⟩, ⟨some 3, .mv (.c (.bool true)), none⟩])
  (.ret)))))),
  [.t 2, .t 3]⟩

/- (*noria/reader.Writer).Ok -/
def d_reader_Writer_Ok : DFun := ⟨
  .seq (.ops false [⟨some 2, .mv (.c (.bool false)), none⟩])
  (.seq (.ops false [⟨some 3, .mv (.t 0), none⟩, ⟨some 4, .peq true (.t 3) (.c (.nilp)), none⟩, ⟨some 5, .mv (.t 4), none⟩, ⟨some 6, .mv (.t 0), some (5, true)⟩, ⟨some 7, .nilck (.t 6), some (5, true)⟩, ⟨some 8, .faddr 0 (.t 7), some (5, true)⟩, ⟨some 9, .faddr 1 (.t 8), some (5, true)⟩, ⟨some 10, .load none (.t 9), some (5, true)⟩, ⟨some 11, .pick (.t 5) (.t 10) (.c (.bool false)), none⟩, ⟨some 2, .mv (.t 11), none⟩])
  (.ret)),
  [.t 2]⟩

/- (*noria/reader.state).fail -/
def d_reader_state_fail : DFun := ⟨
  .ops false [⟨some 2, .mv (.t 0), none⟩, ⟨some 3, .mv (.t 0), none⟩, ⟨some 4, .nilck (.t 2), none⟩, ⟨some 5, .faddr 1 (.t 4), none⟩, ⟨none, .store 1 (.t 5) (.c (.bool false)), none⟩, ⟨some 6, .nilck (.t 3), none⟩, ⟨some 7, .faddr 0 (.t 6), none⟩, ⟨none, .store 1 (.t 7) (.c (.nil)), none⟩],
  []⟩

/- (*noria/reader.Writer).lay -/
def d_reader_Writer_lay : DFun := ⟨
  .seq (.ops false [⟨some 4, .mv (.t 0), none⟩, ⟨some 5, .callH 57 [(.t 4)], none⟩])
  (.cond (.t 5) (.ops false [⟨some 6, .mv (.t 0), none⟩, ⟨some 7, .mv (.t 0), none⟩, ⟨some 8, .nilck (.t 7), none⟩, ⟨some 9, .faddr 0 (.t 8), none⟩, ⟨some 10, .faddr 0 (.t 9), none⟩, ⟨some 11, .load none (.t 10), none⟩, ⟨some 12, .mv (.t 1), none⟩, ⟨some 13, .append 1 (.t 11) (.t 12), none⟩, ⟨some 14, .nilck (.t 6), none⟩, ⟨some 15, .faddr 0 (.t 14), none⟩, ⟨some 16, .faddr 0 (.t 15), none⟩, ⟨none, .store 1 (.t 16) (.t 13), none⟩])
   (.skip)),
  []⟩

/- noria/octet.Put -/
def d_octet_Put : DFun := ⟨
  .seq (.ops false [⟨some 4, .mv (.c (.nil)), none⟩])
  (.seq (.seq (.ops false [⟨some 7, .mv (.t 1), none⟩, ⟨some 8, .bin .lss (.t 7) (.c (.int .i64 1)), none⟩, ⟨some 9, .mv (.t 8), none⟩, ⟨some 10, .mv (.t 1), some (9, false)⟩, ⟨some 11, .bin .gtr (.t 10) (.c (.int .i64 8)), some (9, false)⟩, ⟨some 12, .pick (.t 9) (.c (.bool true)) (.t 11), none⟩])
  (.cond (.t 12) (.seq (.ops false [⟨some 4, .mv (.c (.nil)), none⟩])
   (.ret))
   (.skip)))
  (.seq (.ops false [⟨some 13, .mv (.t 1), none⟩, ⟨some 14, .make [.int .u8 0] (.t 13) (.t 13), none⟩, ⟨some 5, .mv (.t 14), none⟩])
  (.seq (.seq (.ops false [⟨some 15, .mv (.t 1), none⟩, ⟨some 16, .mv (.c (.int .i64 0)), none⟩])
  (.block 0 (.loop [0, 1, 5, 15, 16] (some 1) (.seq (.ops false [⟨some 17, .bin .lss (.t 16) (.t 15), none⟩])
    (.seq (.cond (.t 17) (.skip)
     (.exit 0))
    (.seq (.block 1 (.seq (.ops false [⟨some 18, .mv (.t 16), none⟩, ⟨some 6, .mv (.t 18), none⟩])
     (.ops false [⟨some 19, .mv (.t 5), none⟩, ⟨some 20, .mv (.t 1), none⟩, ⟨some 21, .bin .sub (.t 20) (.c (.int .i64 1)), none⟩, ⟨some 22, .mv (.t 6), none⟩, ⟨some 23, .bin .sub (.t 21) (.t 22), none⟩, ⟨some 24, .mv (.t 0), none⟩, ⟨some 25, .mv (.t 6), none⟩, ⟨some 26, .bin .mul (.c (.int .i64 8)) (.t 25), none⟩, ⟨some 27, .bin .shr (.t 24) (.t 26), none⟩, ⟨some 28, .conv .u8 (.t 27), none⟩, ⟨some 29, .iaddr 1 (.t 19) (.t 23), none⟩, ⟨none, .store 1 (.t 29) (.t 28), none⟩])))
    (.ops false [⟨some 30, .bin .add (.t 16) (.c (.int .i64 1)), none⟩, ⟨some 16, .mv (.t 30), none⟩])))))))
  (.seq (.ops false [⟨some 31, .mv (.t 5), none⟩, ⟨some 4, .mv (.t 31), none⟩])
  (.ret))))),
  [.t 4]⟩

/- noria/crc.tail -/
def d_crc_tail : DFun := ⟨
  .seq (.ops false [⟨some 2, .mv (.c (.nil)), none⟩])
  (.seq (.ops false [⟨some 4, .make [.int .u8 0] (.c (.int .i64 0)) (.c (.int .i64 4)), none⟩, ⟨some 3, .mv (.t 4), none⟩])
  (.seq (.seq (.ops false [⟨some 5, .mv (.c (.int .i64 0)), none⟩])
  (.block 0 (.loop [0, 3, 5] (some 1) (.seq (.ops false [⟨some 6, .bin .lss (.t 5) (.c (.int .i64 4)), none⟩])
    (.seq (.cond (.t 6) (.skip)
     (.exit 0))
    (.seq (.block 1 (.seq (.ops false [⟨some 7, .mv (.t 3), none⟩, ⟨some 8, .mv (.t 0), none⟩, ⟨some 9, .conv .u8 (.t 8), none⟩, ⟨some 10, .bslice true [.int .u8 0] [(some (.t 9))], none⟩, ⟨some 11, .append 1 (.t 7) (.t 10), none⟩, ⟨some 3, .mv (.t 11), none⟩])
     (.ops false [⟨some 12, .mv (.t 0), none⟩, ⟨some 13, .bin .shr (.t 12) (.c (.int .u64 8)), none⟩, ⟨some 0, .mv (.t 13), none⟩])))
    (.ops false [⟨some 14, .bin .add (.t 5) (.c (.int .i64 1)), none⟩, ⟨some 5, .mv (.t 14), none⟩])))))))
  (.seq (.ops false [⟨some 15, .mv (.t 3), none⟩, ⟨some 2, .mv (.t 15), none⟩])
  (.ret)))),
  [.t 2]⟩

/- noria/crc.Of -/
def d_crc_Of : DFun := ⟨
  .seq (.ops false [⟨some 2, .mv (.c (.int .u32 0)), none⟩])
  (.seq (.ops false [⟨some 4, .callH 110 [], none⟩, ⟨some 3, .mv (.t 4), none⟩])
  (.seq (.ops false [⟨some 5, .mv (.t 3), none⟩, ⟨some 6, .mv (.t 0), none⟩, ⟨some 7, .callH 111 [(.t 5), (.t 6)], none⟩])
  (.seq (.ops false [⟨some 8, .mv (.t 3), none⟩, ⟨some 9, .callH 112 [(.t 8)], none⟩, ⟨some 2, .mv (.t 9), none⟩])
  (.ret)))),
  [.t 2]⟩

/- slices.Grow[[]byte,byte] -/
def d_slices_Grow_byte_byte : DFun := ⟨
  .seq (.ops false [⟨some 4, .mv (.c (.nil)), none⟩])
  (.seq (.seq (.ops false [⟨some 5, .mv (.t 1), none⟩, ⟨some 6, .bin .lss (.t 5) (.c (.int .i64 0)), none⟩])
  (.cond (.t 6) (.ops false [⟨some 7, .bad, none⟩, ⟨none, .bad, none⟩])
   (.skip)))
  (.seq (.seq (.ops false [⟨some 8, .mv (.t 1), none⟩, ⟨some 9, .mv (.t 0), none⟩, ⟨some 10, .capn (.t 9), none⟩, ⟨some 11, .mv (.t 0), none⟩, ⟨some 12, .len (.t 11), none⟩, ⟨some 13, .bin .sub (.t 10) (.t 12), none⟩, ⟨some 14, .bin .sub (.t 8) (.t 13), none⟩, ⟨some 1, .mv (.t 14), none⟩])
  (.seq (.ops false [⟨some 15, .mv (.t 1), none⟩, ⟨some 16, .bin .gtr (.t 15) (.c (.int .i64 0)), none⟩])
  (.cond (.t 16) (.ops false [⟨some 17, .mv (.t 0), none⟩, ⟨some 18, .mv (.t 0), none⟩, ⟨some 19, .capn (.t 18), none⟩, ⟨some 20, .slice 1 (.t 17) none (some (.t 19)) none, none⟩, ⟨some 21, .mv (.t 1), none⟩, ⟨some 22, .appz 1 [.int .u8 0] (.t 20) (.t 21), none⟩, ⟨some 23, .mv (.t 0), none⟩, ⟨some 24, .len (.t 23), none⟩, ⟨some 25, .slice 1 (.t 22) none (some (.t 24)) none, none⟩, ⟨some 0, .home 1 (.t 25), none⟩])
   (.skip))))
  (.seq (.ops false [⟨some 26, .home 1 (.t 0), none⟩, ⟨some 4, .mv (.t 26), none⟩])
  (.ret)))),
  [.t 4]⟩

/- slices.Clone[[]byte,byte] -/
def d_slices_Clone_byte_byte : DFun := ⟨
  .seq (.ops false [⟨some 2, .mv (.c (.nil)), none⟩])
  (.seq (.seq (.ops false [⟨some 3, .mv (.t 0), none⟩, ⟨some 4, .snil false (.t 3), none⟩])
  (.cond (.t 4) (.seq (.ops false [⟨some 2, .mv (.c (.nil)), none⟩])
   (.ret))
   (.skip)))
  (.seq (.ops false [⟨some 5, .bslice false [.int .u8 0] [], none⟩, ⟨some 6, .mv (.t 0), none⟩, ⟨some 7, .append 1 (.t 5) (.t 6), none⟩, ⟨some 2, .mv (.t 7), none⟩])
  (.ret))),
  [.t 2]⟩

/- noria/noriaref28.Right -/
/- (*noria/noriaref03.W).Int -/
/- (*noria/noriaref03.W).Text -/
/- noria/noriaref33.ty -/
/- noria/noriaref05.Cells -/
/- noria/noriaref01.Put -/
/- (*noria/noriaref03.W).bytes -/
/- noria/noriaref02.tail -/
/- noria/noriaref02.Of -/
/- bytes.Equal -/
def d_bytes_Equal : DFun := ⟨
  .seq (.ops false [⟨some 4, .mv (.c (.bool false)), none⟩])
  (.seq (.ops false [⟨some 5, .mv (.t 0), none⟩, ⟨some 6, .b2s (.t 5), none⟩, ⟨some 7, .mv (.t 1), none⟩, ⟨some 8, .b2s (.t 7), none⟩, ⟨some 9, .bin .eql (.t 6) (.t 8), none⟩, ⟨some 4, .mv (.t 9), none⟩])
  (.ret)),
  [.t 4]⟩

/- noria/reader.From -/
def d_reader_From : DFun := ⟨
  .seq (.ops false [⟨some 2, .mv (.c (.nilp)), none⟩])
  (.seq (.ops false [⟨some 3, .mv (.t 0), none⟩, ⟨some 4, .callP 64 [(.t 3)], none⟩, ⟨some 5, .build [.nil, .bool false] [(0, 1, (.t 4)), (1, 1, (.c (.bool true)))], none⟩, ⟨some 6, .build [.nil, .bool false, .int .i64 0] [(0, 2, (.t 5))], none⟩, ⟨some 7, .box (.t 6), none⟩, ⟨some 2, .mv (.t 7), none⟩])
  (.ret)),
  [.t 2]⟩

/- (*noria/reader.Reader).Num -/
def d_reader_Reader_Num : DFun := ⟨
  .seq (.ops false [⟨some 4, .mv (.c (.int .i64 0)), none⟩])
  (.seq (.seq (.ops false [⟨some 5, .mv (.t 1), none⟩, ⟨some 6, .bin .lss (.t 5) (.c (.int .i64 1)), none⟩, ⟨some 7, .mv (.t 6), none⟩, ⟨some 8, .mv (.t 1), some (7, false)⟩, ⟨some 9, .bin .gtr (.t 8) (.c (.int .i64 4)), some (7, false)⟩, ⟨some 10, .pick (.t 7) (.c (.bool true)) (.t 9), none⟩])
  (.cond (.t 10) (.ops false [⟨some 1, .mv (.c (.int .i64 (-1))), none⟩])
   (.skip)))
  (.seq (.ops false [⟨some 11, .mv (.t 0), none⟩, ⟨some 12, .mv (.t 1), none⟩, ⟨some 13, .callH 116 [(.t 11), (.t 12)], none⟩, ⟨some 14, .callP 115 [(.t 13)], none⟩, ⟨some 15, .conv .i64 (.t 14), none⟩, ⟨some 4, .mv (.t 15), none⟩])
  (.ret))),
  [.t 4]⟩

/- (*noria/reader.Reader).Part -/
def d_reader_Reader_Part : DFun := ⟨
  .seq (.ops false [⟨some 2, .mv (.c (.nil)), none⟩])
  (.seq (.ops false [⟨some 3, .mv (.t 0), none⟩, ⟨some 4, .mv (.t 0), none⟩, ⟨some 5, .callH 76 [(.t 4), (.c (.int .i64 4))], none⟩, ⟨some 6, .callH 116 [(.t 3), (.t 5)], none⟩, ⟨some 7, .callP 64 [(.t 6)], none⟩, ⟨some 2, .mv (.t 7), none⟩])
  (.ret)),
  [.t 2]⟩

/- (*noria/reader.Reader).Ok -/
def d_reader_Reader_Ok : DFun := ⟨
  .seq (.ops false [⟨some 2, .mv (.c (.bool false)), none⟩])
  (.seq (.ops false [⟨some 3, .mv (.t 0), none⟩, ⟨some 4, .peq true (.t 3) (.c (.nilp)), none⟩, ⟨some 5, .mv (.t 4), none⟩, ⟨some 6, .mv (.t 0), some (5, true)⟩, ⟨some 7, .nilck (.t 6), some (5, true)⟩, ⟨some 8, .faddr 0 (.t 7), some (5, true)⟩, ⟨some 9, .faddr 1 (.t 8), some (5, true)⟩, ⟨some 10, .load none (.t 9), some (5, true)⟩, ⟨some 11, .pick (.t 5) (.t 10) (.c (.bool false)), none⟩, ⟨some 2, .mv (.t 11), none⟩])
  (.ret)),
  [.t 2]⟩

/- (*noria/reader.Reader).More -/
def d_reader_Reader_More : DFun := ⟨
  .seq (.ops false [⟨some 2, .mv (.c (.bool false)), none⟩])
  (.seq (.ops true [⟨some 3, .mv (.t 0), none⟩, ⟨some 4, .rd (.callH 78 [(.t 3)]), none⟩, ⟨some 5, .mv (.t 4), none⟩, ⟨some 6, .mv (.t 0), some (5, true)⟩, ⟨some 7, .nilck (.t 6), some (5, true)⟩, ⟨some 8, .faddr 2 (.t 7), some (5, true)⟩, ⟨some 9, .load none (.t 8), some (5, true)⟩, ⟨some 10, .mv (.t 0), some (5, true)⟩, ⟨some 11, .nilck (.t 10), some (5, true)⟩, ⟨some 12, .faddr 0 (.t 11), some (5, true)⟩, ⟨some 13, .faddr 0 (.t 12), some (5, true)⟩, ⟨some 14, .load none (.t 13), some (5, true)⟩, ⟨some 15, .len (.t 14), some (5, true)⟩, ⟨some 16, .bin .lss (.t 9) (.t 15), some (5, true)⟩, ⟨some 17, .pick (.t 5) (.t 16) (.c (.bool false)), none⟩, ⟨some 2, .mv (.t 17), none⟩])
  (.ret)),
  [.t 2]⟩

/- noria/image.some[noria/api.Enum] -/
def d_image_some_api_Enum : DFun := ⟨
  .seq (.ops false [⟨some 3, .box (.t 0), none⟩, ⟨some 6, .mv (.c (.nil)), none⟩])
  (.seq (.ops false [⟨some 7, .mkown 2 (.c (.nil)), none⟩])
  (.seq (.seq (.ops false [⟨some 9, .faddr 0 (.t 3), none⟩, ⟨some 10, .load none (.t 9), none⟩, ⟨some 11, .mv (.t 1), none⟩, ⟨some 12, .callH 76 [(.t 10), (.t 11)], none⟩, ⟨some 13, .mv (.c (.int .i64 0)), none⟩])
  (.block 0 (.loop [2, 3, 7, 12, 13] none (.seq (.ops false [⟨some 14, .bin .lss (.t 13) (.t 12), none⟩])
    (.seq (.cond (.t 14) (.skip)
     (.exit 0))
    (.seq (.block 1 (.seq (.ops false [⟨some 15, .mv (.t 2), none⟩, ⟨some 16, .callvH (.t 15) [], none⟩, ⟨some 8, .alloc [.str [], .nil], none⟩, ⟨none, .store 2 (.t 8) (.t 16), none⟩])
     (.seq (.seq (.ops false [⟨some 17, .faddr 0 (.t 3), none⟩, ⟨some 18, .load none (.t 17), none⟩, ⟨some 19, .callH 78 [(.t 18)], none⟩, ⟨some 20, .un .not (.t 19), none⟩])
     (.cond (.t 20) (.seq (.ops false [⟨some 6, .fz (.mv (.c (.nil))), none⟩])
      (.ret))
      (.skip)))
     (.ops false [⟨some 21, .mv (.t 7), none⟩, ⟨some 22, .load (some 2) (.t 8), none⟩, ⟨some 23, .bslice true [.str [], .nil] [(some (.t 22))], none⟩, ⟨some 24, .append 2 (.t 21) (.t 23), none⟩, ⟨some 7, .mv (.t 24), none⟩]))))
    (.ops false [⟨some 25, .bin .add (.t 13) (.c (.int .i64 1)), none⟩, ⟨some 13, .mv (.t 25), none⟩])))))))
  (.seq (.ops false [⟨some 26, .fz (.mv (.t 7)), none⟩, ⟨some 6, .mv (.t 26), none⟩])
  (.ret)))),
  [.t 6]⟩

/- (noria/image.taker).enum -/
def d_image_taker_enum : DFun := ⟨
  .seq (.ops false [⟨some 1, .box (.t 0), none⟩, ⟨some 2, .alloc [.str [], .nil], none⟩])
  (.seq (.ops false [⟨some 4, .faddr 0 (.t 1), none⟩, ⟨some 5, .load none (.t 4), none⟩, ⟨some 6, .callH 117 [(.t 5)], none⟩, ⟨some 3, .mv (.t 6), none⟩])
  (.seq (.ops false [⟨some 7, .mv (.t 3), none⟩, ⟨some 8, .load (some 1) (.t 1), none⟩, ⟨some 9, .faddr 0 (.t 1), none⟩, ⟨some 10, .load none (.t 9), none⟩, ⟨some 11, .mkmeth 117 [(.t 10)], none⟩, ⟨some 12, .callH 118 [(.t 8), (.c (.int .i64 1)), (.t 11)], none⟩, ⟨some 13, .build [.str [], .nil] [(0, 1, (.t 7)), (1, 1, (.t 12))], none⟩, ⟨none, .store 2 (.t 2) (.t 13), none⟩])
  (.ret))),
  [.cell 2 (some 2)]⟩

/- noria/image.some[noria/api.Port] -/
def d_image_some_api_Port : DFun := ⟨
  .seq (.ops false [⟨some 3, .box (.t 0), none⟩, ⟨some 6, .mv (.c (.nil)), none⟩])
  (.seq (.ops false [⟨some 7, .mkown 4 (.c (.nil)), none⟩])
  (.seq (.seq (.ops false [⟨some 9, .faddr 0 (.t 3), none⟩, ⟨some 10, .load none (.t 9), none⟩, ⟨some 11, .mv (.t 1), none⟩, ⟨some 12, .callH 76 [(.t 10), (.t 11)], none⟩, ⟨some 13, .mv (.c (.int .i64 0)), none⟩])
  (.block 0 (.loop [2, 3, 7, 12, 13] none (.seq (.ops false [⟨some 14, .bin .lss (.t 13) (.t 12), none⟩])
    (.seq (.cond (.t 14) (.skip)
     (.exit 0))
    (.seq (.block 1 (.seq (.ops false [⟨some 15, .mv (.t 2), none⟩, ⟨some 16, .callvH (.t 15) [], none⟩, ⟨some 8, .alloc [.str [], .int .i64 0, .int .i64 0, .int .i64 0], none⟩, ⟨none, .store 4 (.t 8) (.t 16), none⟩])
     (.seq (.seq (.ops false [⟨some 17, .faddr 0 (.t 3), none⟩, ⟨some 18, .load none (.t 17), none⟩, ⟨some 19, .callH 78 [(.t 18)], none⟩, ⟨some 20, .un .not (.t 19), none⟩])
     (.cond (.t 20) (.seq (.ops false [⟨some 6, .fz (.mv (.c (.nil))), none⟩])
      (.ret))
      (.skip)))
     (.ops false [⟨some 21, .mv (.t 7), none⟩, ⟨some 22, .load (some 4) (.t 8), none⟩, ⟨some 23, .bslice true [.str [], .int .i64 0, .int .i64 0, .int .i64 0] [(some (.t 22))], none⟩, ⟨some 24, .append 4 (.t 21) (.t 23), none⟩, ⟨some 7, .mv (.t 24), none⟩]))))
    (.ops false [⟨some 25, .bin .add (.t 13) (.c (.int .i64 1)), none⟩, ⟨some 13, .mv (.t 25), none⟩])))))))
  (.seq (.ops false [⟨some 26, .fz (.mv (.t 7)), none⟩, ⟨some 6, .mv (.t 26), none⟩])
  (.ret)))),
  [.t 6]⟩

/- (noria/image.taker).port -/
def d_image_taker_port : DFun := ⟨
  .seq (.ops false [⟨some 1, .box (.t 0), none⟩, ⟨some 2, .alloc [.str [], .int .i64 0, .int .i64 0, .int .i64 0], none⟩])
  (.seq (.ops false [⟨some 4, .faddr 0 (.t 1), none⟩, ⟨some 5, .load none (.t 4), none⟩, ⟨some 6, .callH 117 [(.t 5)], none⟩, ⟨some 3, .mv (.t 6), none⟩])
  (.seq (.ops false [⟨some 7, .mv (.t 3), none⟩, ⟨some 8, .load (some 1) (.t 1), none⟩, ⟨some 9, .callH 119 [(.t 8)], none⟩, ⟨some 10, .build [.str [], .int .i64 0, .int .i64 0, .int .i64 0] [(0, 1, (.t 7)), (1, 3, (.t 9))], none⟩, ⟨none, .store 4 (.t 2) (.t 10), none⟩])
  (.ret))),
  [.cell 2 (some 4)]⟩

/- noria/image.some[noria/api.Slot] -/
def d_image_some_api_Slot : DFun := ⟨
  .seq (.ops false [⟨some 3, .box (.t 0), none⟩, ⟨some 6, .mv (.c (.nil)), none⟩])
  (.seq (.ops false [⟨some 7, .mkown 6 (.c (.nil)), none⟩])
  (.seq (.seq (.ops false [⟨some 9, .faddr 0 (.t 3), none⟩, ⟨some 10, .load none (.t 9), none⟩, ⟨some 11, .mv (.t 1), none⟩, ⟨some 12, .callH 76 [(.t 10), (.t 11)], none⟩, ⟨some 13, .mv (.c (.int .i64 0)), none⟩])
  (.block 0 (.loop [2, 3, 7, 12, 13] none (.seq (.ops false [⟨some 14, .bin .lss (.t 13) (.t 12), none⟩])
    (.seq (.cond (.t 14) (.skip)
     (.exit 0))
    (.seq (.block 1 (.seq (.ops false [⟨some 15, .mv (.t 2), none⟩, ⟨some 16, .callvH (.t 15) [], none⟩, ⟨some 8, .alloc [.str [], .int .i64 0, .int .i64 0, .int .i64 0, .int .i64 0, .nil], none⟩, ⟨none, .store 6 (.t 8) (.t 16), none⟩])
     (.seq (.seq (.ops false [⟨some 17, .faddr 0 (.t 3), none⟩, ⟨some 18, .load none (.t 17), none⟩, ⟨some 19, .callH 78 [(.t 18)], none⟩, ⟨some 20, .un .not (.t 19), none⟩])
     (.cond (.t 20) (.seq (.ops false [⟨some 6, .mkown 6 (.c (.nil)), none⟩])
      (.ret))
      (.skip)))
     (.ops false [⟨some 21, .mv (.t 7), none⟩, ⟨some 22, .load (some 6) (.t 8), none⟩, ⟨some 23, .bslice true [.str [], .int .i64 0, .int .i64 0, .int .i64 0, .int .i64 0, .nil] [(some (.t 22))], none⟩, ⟨some 24, .append 6 (.t 21) (.t 23), none⟩, ⟨some 7, .mv (.t 24), none⟩]))))
    (.ops false [⟨some 25, .bin .add (.t 13) (.c (.int .i64 1)), none⟩, ⟨some 13, .mv (.t 25), none⟩])))))))
  (.seq (.ops false [⟨some 26, .mv (.t 7), none⟩, ⟨some 6, .mv (.t 26), none⟩])
  (.ret)))),
  [.t 6]⟩

/- (noria/image.taker).slot -/
def d_image_taker_slot : DFun := ⟨
  .seq (.ops false [⟨some 1, .box (.t 0), none⟩, ⟨some 2, .alloc [.str [], .int .i64 0, .int .i64 0, .int .i64 0, .int .i64 0, .nil], none⟩])
  (.seq (.ops false [⟨some 5, .faddr 0 (.t 1), none⟩, ⟨some 6, .load none (.t 5), none⟩, ⟨some 7, .callH 117 [(.t 6)], none⟩, ⟨some 3, .mv (.t 7), none⟩])
  (.seq (.ops false [⟨some 8, .load (some 1) (.t 1), none⟩, ⟨some 9, .callH 119 [(.t 8)], none⟩, ⟨some 4, .alloc [.int .i64 0, .int .i64 0, .int .i64 0], none⟩, ⟨none, .store 3 (.t 4) (.t 9), none⟩])
  (.seq (.opsS [(1, 6), (4, 6), (13, 6)] [(0, ⟨some 10, .mv (.t 3), none⟩), (1, ⟨some 11, .load (some 3) (.t 4), none⟩), (2, ⟨some 12, .load (some 1) (.t 1), none⟩), (3, ⟨some 13, .faddr 0 (.t 1), none⟩), (4, ⟨some 14, .load none (.t 13), none⟩), (5, ⟨some 15, .mkmeth 121 [(.t 14)], none⟩), (6, ⟨some 16, .to 6 (.callH 120 [(.t 12), (.c (.int .i64 1)), (.t 15)]), none⟩), (7, ⟨some 17, .build [.str [], .int .i64 0, .int .i64 0, .int .i64 0, .int .i64 0, .nil] [(0, 1, (.t 10)), (1, 3, (.t 11)), (5, 1, (.t 16))], none⟩), (8, ⟨none, .store 6 (.t 2) (.t 17), none⟩)])
  (.ret)))),
  [.cell 2 (some 6)]⟩

/- noria/image.some[int] -/
def d_image_some_int : DFun := ⟨
  .seq (.ops false [⟨some 3, .box (.t 0), none⟩, ⟨some 6, .mv (.c (.nil)), none⟩])
  (.seq (.ops false [⟨some 7, .mkown 1 (.c (.nil)), none⟩])
  (.seq (.seq (.ops false [⟨some 9, .faddr 0 (.t 3), none⟩, ⟨some 10, .load none (.t 9), none⟩, ⟨some 11, .mv (.t 1), none⟩, ⟨some 12, .callH 76 [(.t 10), (.t 11)], none⟩, ⟨some 13, .mv (.c (.int .i64 0)), none⟩])
  (.block 0 (.loop [2, 3, 7, 12, 13] none (.seq (.ops false [⟨some 14, .bin .lss (.t 13) (.t 12), none⟩])
    (.seq (.cond (.t 14) (.skip)
     (.exit 0))
    (.seq (.block 1 (.seq (.ops false [⟨some 15, .mv (.t 2), none⟩, ⟨some 16, .callvH (.t 15) [], none⟩, ⟨some 8, .mv (.t 16), none⟩])
     (.seq (.seq (.ops false [⟨some 17, .faddr 0 (.t 3), none⟩, ⟨some 18, .load none (.t 17), none⟩, ⟨some 19, .callH 78 [(.t 18)], none⟩, ⟨some 20, .un .not (.t 19), none⟩])
     (.cond (.t 20) (.seq (.ops false [⟨some 6, .fz (.mv (.c (.nil))), none⟩])
      (.ret))
      (.skip)))
     (.ops false [⟨some 21, .mv (.t 7), none⟩, ⟨some 22, .mv (.t 8), none⟩, ⟨some 23, .bslice true [.int .i64 0] [(some (.t 22))], none⟩, ⟨some 24, .append 1 (.t 21) (.t 23), none⟩, ⟨some 7, .mv (.t 24), none⟩]))))
    (.ops false [⟨some 25, .bin .add (.t 13) (.c (.int .i64 1)), none⟩, ⟨some 13, .mv (.t 25), none⟩])))))))
  (.seq (.ops false [⟨some 26, .fz (.mv (.t 7)), none⟩, ⟨some 6, .mv (.t 26), none⟩])
  (.ret)))),
  [.t 6]⟩

/- (noria/image.taker).kind -/
def d_image_taker_kind : DFun := ⟨
  .seq (.ops false [⟨some 1, .box (.t 0), none⟩, ⟨some 2, .mv (.c (.int .i64 0)), none⟩])
  (.seq (.ops false [⟨some 3, .faddr 0 (.t 1), none⟩, ⟨some 4, .load none (.t 3), none⟩, ⟨some 5, .callH 76 [(.t 4), (.c (.int .i64 2))], none⟩, ⟨some 2, .mv (.t 5), none⟩])
  (.ret)),
  [.t 2]⟩

/- noria/ty.Cells -/
def d_ty_Cells : DFun := ⟨
  .seq (.ops false [⟨some 1, .box (.t 0), none⟩, ⟨some 2, .mv (.c (.int .i64 0)), none⟩])
  (.seq (.ops false [⟨some 3, .faddr 2 (.t 1), none⟩, ⟨some 4, .load none (.t 3), none⟩, ⟨some 5, .minmax true (.t 4) (.c (.int .i64 1)), none⟩, ⟨some 6, .minmax false (.t 5) (.c (.int .i64 8)), none⟩, ⟨some 2, .mv (.t 6), none⟩])
  (.ret)),
  [.t 2]⟩

/- noria/instr.Get -/
def d_instr_Get : DFun := ⟨
  .seq (.ops false [⟨some 2, .mv (.c (.nil)), none⟩, ⟨some 3, .mv (.c (.bool false)), none⟩])
  (.seq (.ops false [⟨some 4, .mkown 4 (.c (.nil)), none⟩])
  (.seq (.ops false [⟨some 7, .mv (.t 0), none⟩, ⟨some 8, .callH 75 [(.t 7)], none⟩, ⟨some 9, .build [.nilp] [(0, 1, (.t 8))], none⟩, ⟨some 5, .alloc [.nilp], none⟩, ⟨none, .store 1 (.t 5) (.t 9), none⟩])
  (.seq (.block 0 (.loop [4, 5] (some 3) (.seq (.seq (.ops false [⟨some 10, .faddr 0 (.t 5), none⟩, ⟨some 11, .load none (.t 10), none⟩, ⟨some 12, .callH 79 [(.t 11)], none⟩])
    (.cond (.t 12) (.skip)
     (.exit 0)))
    (.block 1 (.seq (.ops false [⟨some 13, .load (some 1) (.t 5), none⟩, ⟨some 14, .callH 122 [(.t 13)], none⟩, ⟨some 6, .alloc [.int .i64 0, .int .i64 0, .int .i64 0, .int .i64 0], none⟩, ⟨none, .store 4 (.t 6) (.t 14), none⟩])
     (.seq (.seq (.ops false [⟨some 15, .faddr 0 (.t 5), none⟩, ⟨some 16, .load none (.t 15), none⟩, ⟨some 17, .callH 78 [(.t 16)], none⟩, ⟨some 18, .un .not (.t 17), none⟩, ⟨some 19, .mv (.t 18), none⟩, ⟨some 20, .load (some 4) (.t 6), some (19, false)⟩, ⟨some 21, .callP 108 [(.t 20)], some (19, false)⟩, ⟨some 22, .un .not (.t 21), some (19, false)⟩, ⟨some 23, .pick (.t 19) (.c (.bool true)) (.t 22), none⟩, ⟨some 24, .mv (.t 23), none⟩, ⟨some 25, .mv (.t 4), some (24, false)⟩, ⟨some 26, .len (.t 25), some (24, false)⟩, ⟨some 27, .bin .eql (.t 26) (.c (.int .i64 6000)), some (24, false)⟩, ⟨some 28, .pick (.t 24) (.c (.bool true)) (.t 27), none⟩])
     (.cond (.t 28) (.seq (.ops false [⟨some 2, .mv (.c (.nil)), none⟩, ⟨some 3, .mv (.c (.bool false)), none⟩])
      (.ret))
      (.skip)))
     (.ops false [⟨some 29, .mv (.t 4), none⟩, ⟨some 30, .load (some 4) (.t 6), none⟩, ⟨some 31, .bslice true [.int .i64 0, .int .i64 0, .int .i64 0, .int .i64 0] [(some (.t 30))], none⟩, ⟨some 32, .append 4 (.t 29) (.t 31), none⟩, ⟨some 4, .mv (.t 32), none⟩])))))))
  (.seq (.ops false [⟨some 33, .mv (.t 4), none⟩, ⟨some 2, .mv (.t 33), none⟩, ⟨some 3, .mv (.c (.bool true)), none⟩])
  (.ret))))),
  [.t 2, .t 3]⟩

/- noria/noriaref03.From -/
/- (*noria/noriaref03.R).Num -/
/- (*noria/noriaref03.R).Part -/
/- (*noria/noriaref03.R).More -/
/- (*noria/noriaref03.R).Text -/
/- noria/noriaref33.getTy -/
/- (*noria/noriaref03.R).Int -/
/- noria/noriaref28.one -/
/- noria/noriaref05.Same -/
def d_noriaref05_Same : DFun := ⟨
  .seq (.ops false [⟨some 4, .mv (.c (.bool false)), none⟩])
  (.seq (.seq (.ops false [⟨some 6, .mv (.t 0), none⟩, ⟨some 7, .len (.t 6), none⟩, ⟨some 8, .mv (.t 1), none⟩, ⟨some 9, .len (.t 8), none⟩, ⟨some 10, .bin .neq (.t 7) (.t 9), none⟩])
  (.cond (.t 10) (.seq (.ops false [⟨some 4, .mv (.c (.bool false)), none⟩])
   (.ret))
   (.skip)))
  (.seq (.seq (.ops false [⟨some 5, .mv (.c (.int .i64 0)), none⟩])
  (.block 0 (.loop [0, 1, 5] (some 0) (.seq (.seq (.ops false [⟨some 11, .mv (.t 5), none⟩, ⟨some 12, .mv (.t 0), none⟩, ⟨some 13, .len (.t 12), none⟩, ⟨some 14, .bin .lss (.t 11) (.t 13), none⟩])
    (.cond (.t 14) (.skip)
     (.exit 0)))
    (.seq (.block 1 (.seq (.ops true [⟨some 17, .mv (.t 0), none⟩, ⟨some 18, .mv (.t 5), none⟩, ⟨some 19, .iaddr 2 (.t 17) (.t 18), none⟩, ⟨some 20, .faddr 0 (.t 19), none⟩, ⟨some 21, .load none (.t 20), none⟩, ⟨some 22, .mv (.t 1), none⟩, ⟨some 23, .mv (.t 5), none⟩, ⟨some 24, .iaddr 2 (.t 22) (.t 23), none⟩, ⟨some 25, .faddr 0 (.t 24), none⟩, ⟨some 26, .load none (.t 25), none⟩, ⟨some 27, .bin .neq (.t 21) (.t 26), none⟩, ⟨some 28, .mv (.t 27), none⟩, ⟨some 29, .mv (.t 0), some (28, false)⟩, ⟨some 30, .mv (.t 5), some (28, false)⟩, ⟨some 31, .iaddr 2 (.t 29) (.t 30), some (28, false)⟩, ⟨some 32, .faddr 1 (.t 31), some (28, false)⟩, ⟨some 33, .load none (.t 32), some (28, false)⟩, ⟨some 34, .mv (.t 1), some (28, false)⟩, ⟨some 35, .mv (.t 5), some (28, false)⟩, ⟨some 36, .iaddr 2 (.t 34) (.t 35), some (28, false)⟩, ⟨some 37, .faddr 1 (.t 36), some (28, false)⟩, ⟨some 38, .load none (.t 37), some (28, false)⟩, ⟨some 39, .callP 126 [(.t 33), (.t 38)], some (28, false)⟩, ⟨some 40, .un .not (.t 39), some (28, false)⟩, ⟨some 41, .pick (.t 28) (.c (.bool true)) (.t 40), none⟩])
     (.cond (.t 41) (.seq (.ops false [⟨some 4, .mv (.c (.bool false)), none⟩])
      (.ret))
      (.skip))))
    (.ops false [⟨some 15, .mv (.t 5), none⟩, ⟨some 16, .bin .add (.t 15) (.c (.int .i64 1)), none⟩, ⟨some 5, .mv (.t 16), none⟩]))))))
  (.seq (.ops false [⟨some 4, .mv (.c (.bool true)), none⟩])
  (.ret)))),
  [.t 4]⟩

/- noria/noriaref20.Same -/
def d_noriaref20_Same : DFun := ⟨
  .seq (.ops false [⟨some 4, .mv (.c (.bool false)), none⟩])
  (.seq (.seq (.ops false [⟨some 6, .mv (.t 0), none⟩, ⟨some 7, .len (.t 6), none⟩, ⟨some 8, .mv (.t 1), none⟩, ⟨some 9, .len (.t 8), none⟩, ⟨some 10, .bin .neq (.t 7) (.t 9), none⟩])
  (.cond (.t 10) (.seq (.ops false [⟨some 4, .mv (.c (.bool false)), none⟩])
   (.ret))
   (.skip)))
  (.seq (.seq (.ops false [⟨some 5, .mv (.c (.int .i64 0)), none⟩])
  (.block 0 (.loop [0, 1, 5] (some 0) (.seq (.seq (.ops false [⟨some 11, .mv (.t 5), none⟩, ⟨some 12, .mv (.t 0), none⟩, ⟨some 13, .len (.t 12), none⟩, ⟨some 14, .bin .lss (.t 11) (.t 13), none⟩])
    (.cond (.t 14) (.skip)
     (.exit 0)))
    (.seq (.block 1 (.seq (.ops true [⟨some 17, .mv (.t 0), none⟩, ⟨some 18, .mv (.t 5), none⟩, ⟨some 19, .iaddr 4 (.t 17) (.t 18), none⟩, ⟨some 20, .load (some 4) (.t 19), none⟩, ⟨some 21, .mv (.t 1), none⟩, ⟨some 22, .mv (.t 5), none⟩, ⟨some 23, .iaddr 4 (.t 21) (.t 22), none⟩, ⟨some 24, .load (some 4) (.t 23), none⟩, ⟨some 25, .aeq true [2, 0, 0, 0] (.t 20) (.t 24), none⟩])
     (.cond (.t 25) (.seq (.ops false [⟨some 4, .mv (.c (.bool false)), none⟩])
      (.ret))
      (.skip))))
    (.ops false [⟨some 15, .mv (.t 5), none⟩, ⟨some 16, .bin .add (.t 15) (.c (.int .i64 1)), none⟩, ⟨some 5, .mv (.t 16), none⟩]))))))
  (.seq (.ops false [⟨some 4, .mv (.c (.bool true)), none⟩])
  (.ret)))),
  [.t 4]⟩

/- noria/noriaref27.Same -/
def d_noriaref27_Same : DFun := ⟨
  .seq (.ops false [⟨some 4, .mv (.c (.bool false)), none⟩])
  (.seq (.seq (.ops false [⟨some 6, .mv (.t 0), none⟩, ⟨some 7, .len (.t 6), none⟩, ⟨some 8, .mv (.t 1), none⟩, ⟨some 9, .len (.t 8), none⟩, ⟨some 10, .bin .neq (.t 7) (.t 9), none⟩])
  (.cond (.t 10) (.seq (.ops false [⟨some 4, .mv (.c (.bool false)), none⟩])
   (.ret))
   (.skip)))
  (.seq (.seq (.ops false [⟨some 5, .mv (.c (.int .i64 0)), none⟩])
  (.block 0 (.loop [0, 1, 5] (some 0) (.seq (.seq (.ops false [⟨some 11, .mv (.t 5), none⟩, ⟨some 12, .mv (.t 0), none⟩, ⟨some 13, .len (.t 12), none⟩, ⟨some 14, .bin .lss (.t 11) (.t 13), none⟩])
    (.cond (.t 14) (.skip)
     (.exit 0)))
    (.seq (.block 1 (.seq (.ops true [⟨some 17, .mv (.t 0), none⟩, ⟨some 18, .mv (.t 5), none⟩, ⟨some 19, .iaddr 6 (.t 17) (.t 18), none⟩, ⟨some 20, .faddr 0 (.t 19), none⟩, ⟨some 21, .load none (.t 20), none⟩, ⟨some 22, .mv (.t 1), none⟩, ⟨some 23, .mv (.t 5), none⟩, ⟨some 24, .iaddr 6 (.t 22) (.t 23), none⟩, ⟨some 25, .faddr 0 (.t 24), none⟩, ⟨some 26, .load none (.t 25), none⟩, ⟨some 27, .bin .neq (.t 21) (.t 26), none⟩, ⟨some 28, .mv (.t 27), none⟩, ⟨some 29, .mv (.t 0), some (28, false)⟩, ⟨some 30, .mv (.t 5), some (28, false)⟩, ⟨some 31, .iaddr 6 (.t 29) (.t 30), some (28, false)⟩, ⟨some 32, .faddr 1 (.t 31), some (28, false)⟩, ⟨some 33, .load (some 3) (.t 32), some (28, false)⟩, ⟨some 34, .mv (.t 1), some (28, false)⟩, ⟨some 35, .mv (.t 5), some (28, false)⟩, ⟨some 36, .iaddr 6 (.t 34) (.t 35), some (28, false)⟩, ⟨some 37, .faddr 1 (.t 36), some (28, false)⟩, ⟨some 38, .load (some 3) (.t 37), some (28, false)⟩, ⟨some 39, .aeq true [0, 0, 0] (.t 33) (.t 38), some (28, false)⟩, ⟨some 40, .pick (.t 28) (.c (.bool true)) (.t 39), none⟩, ⟨some 41, .mv (.t 40), none⟩, ⟨some 42, .mv (.t 0), some (41, false)⟩, ⟨some 43, .mv (.t 5), some (41, false)⟩, ⟨some 44, .iaddr 6 (.t 42) (.t 43), some (41, false)⟩, ⟨some 45, .faddr 4 (.t 44), some (41, false)⟩, ⟨some 46, .load none (.t 45), some (41, false)⟩, ⟨some 47, .mv (.t 1), some (41, false)⟩, ⟨some 48, .mv (.t 5), some (41, false)⟩, ⟨some 49, .iaddr 6 (.t 47) (.t 48), some (41, false)⟩, ⟨some 50, .faddr 4 (.t 49), some (41, false)⟩, ⟨some 51, .load none (.t 50), some (41, false)⟩, ⟨some 52, .bin .neq (.t 46) (.t 51), some (41, false)⟩, ⟨some 53, .pick (.t 41) (.c (.bool true)) (.t 52), none⟩, ⟨some 54, .mv (.t 53), none⟩, ⟨some 55, .mv (.t 0), some (54, false)⟩, ⟨some 56, .mv (.t 5), some (54, false)⟩, ⟨some 57, .iaddr 6 (.t 55) (.t 56), some (54, false)⟩, ⟨some 58, .faddr 5 (.t 57), some (54, false)⟩, ⟨some 59, .load none (.t 58), some (54, false)⟩, ⟨some 60, .mv (.t 1), some (54, false)⟩, ⟨some 61, .mv (.t 5), some (54, false)⟩, ⟨some 62, .iaddr 6 (.t 60) (.t 61), some (54, false)⟩, ⟨some 63, .faddr 5 (.t 62), some (54, false)⟩, ⟨some 64, .load none (.t 63), some (54, false)⟩, ⟨some 65, .callP 127 [(.t 59), (.t 64)], some (54, false)⟩, ⟨some 66, .un .not (.t 65), some (54, false)⟩, ⟨some 67, .pick (.t 54) (.c (.bool true)) (.t 66), none⟩])
     (.cond (.t 67) (.seq (.ops false [⟨some 4, .mv (.c (.bool false)), none⟩])
      (.ret))
      (.skip))))
    (.ops false [⟨some 15, .mv (.t 5), none⟩, ⟨some 16, .bin .add (.t 15) (.c (.int .i64 1)), none⟩, ⟨some 5, .mv (.t 16), none⟩]))))))
  (.seq (.ops false [⟨some 4, .mv (.c (.bool true)), none⟩])
  (.ret)))),
  [.t 4]⟩

/- noria/noriaref32.SameInts -/
def d_noriaref32_SameInts : DFun := ⟨
  .seq (.ops false [⟨some 4, .mv (.c (.bool false)), none⟩])
  (.seq (.seq (.ops false [⟨some 6, .mv (.t 0), none⟩, ⟨some 7, .len (.t 6), none⟩, ⟨some 8, .mv (.t 1), none⟩, ⟨some 9, .len (.t 8), none⟩, ⟨some 10, .bin .neq (.t 7) (.t 9), none⟩])
  (.cond (.t 10) (.seq (.ops false [⟨some 4, .mv (.c (.bool false)), none⟩])
   (.ret))
   (.skip)))
  (.seq (.seq (.ops false [⟨some 5, .mv (.c (.int .i64 0)), none⟩])
  (.block 0 (.loop [0, 1, 5] (some 0) (.seq (.seq (.ops false [⟨some 11, .mv (.t 5), none⟩, ⟨some 12, .mv (.t 0), none⟩, ⟨some 13, .len (.t 12), none⟩, ⟨some 14, .bin .lss (.t 11) (.t 13), none⟩])
    (.cond (.t 14) (.skip)
     (.exit 0)))
    (.seq (.block 1 (.seq (.ops true [⟨some 17, .mv (.t 0), none⟩, ⟨some 18, .mv (.t 5), none⟩, ⟨some 19, .iaddr 1 (.t 17) (.t 18), none⟩, ⟨some 20, .load none (.t 19), none⟩, ⟨some 21, .mv (.t 1), none⟩, ⟨some 22, .mv (.t 5), none⟩, ⟨some 23, .iaddr 1 (.t 21) (.t 22), none⟩, ⟨some 24, .load none (.t 23), none⟩, ⟨some 25, .bin .neq (.t 20) (.t 24), none⟩])
     (.cond (.t 25) (.seq (.ops false [⟨some 4, .mv (.c (.bool false)), none⟩])
      (.ret))
      (.skip))))
    (.ops false [⟨some 15, .mv (.t 5), none⟩, ⟨some 16, .bin .add (.t 15) (.c (.int .i64 1)), none⟩, ⟨some 5, .mv (.t 16), none⟩]))))))
  (.seq (.ops false [⟨some 4, .mv (.c (.bool true)), none⟩])
  (.ret)))),
  [.t 4]⟩

/- noria/noriaref28.Same -/
def d_noriaref28_Same : DFun := ⟨
  .seq (.ops false [⟨some 4, .mv (.c (.bool false)), none⟩])
  (.seq (.seq (.ops false [⟨some 6, .mv (.t 0), none⟩, ⟨some 7, .len (.t 6), none⟩, ⟨some 8, .mv (.t 1), none⟩, ⟨some 9, .len (.t 8), none⟩, ⟨some 10, .bin .neq (.t 7) (.t 9), none⟩])
  (.cond (.t 10) (.seq (.ops false [⟨some 4, .mv (.c (.bool false)), none⟩])
   (.ret))
   (.skip)))
  (.seq (.seq (.ops false [⟨some 5, .mv (.c (.int .i64 0)), none⟩])
  (.block 0 (.loop [0, 1, 5] (some 0) (.seq (.seq (.ops false [⟨some 11, .mv (.t 5), none⟩, ⟨some 12, .mv (.t 0), none⟩, ⟨some 13, .len (.t 12), none⟩, ⟨some 14, .bin .lss (.t 11) (.t 13), none⟩])
    (.cond (.t 14) (.skip)
     (.exit 0)))
    (.seq (.block 1 (.seq (.ops true [⟨some 17, .mv (.t 0), none⟩, ⟨some 18, .mv (.t 5), none⟩, ⟨some 19, .iaddr 4 (.t 17) (.t 18), none⟩, ⟨some 20, .load (some 4) (.t 19), none⟩, ⟨some 21, .mv (.t 1), none⟩, ⟨some 22, .mv (.t 5), none⟩, ⟨some 23, .iaddr 4 (.t 21) (.t 22), none⟩, ⟨some 24, .load (some 4) (.t 23), none⟩, ⟨some 25, .aeq true [0, 0, 0, 0] (.t 20) (.t 24), none⟩])
     (.cond (.t 25) (.seq (.ops false [⟨some 4, .mv (.c (.bool false)), none⟩])
      (.ret))
      (.skip))))
    (.ops false [⟨some 15, .mv (.t 5), none⟩, ⟨some 16, .bin .add (.t 15) (.c (.int .i64 1)), none⟩, ⟨some 5, .mv (.t 16), none⟩]))))))
  (.seq (.ops false [⟨some 4, .mv (.c (.bool true)), none⟩])
  (.ret)))),
  [.t 4]⟩

/- slices.Equal[[]string,string] -/
def d_slices_Equal_string_string : DFun := ⟨
  .seq (.ops false [⟨some 4, .mv (.c (.bool false)), none⟩])
  (.seq (.seq (.ops false [⟨some 6, .mv (.t 0), none⟩, ⟨some 7, .len (.t 6), none⟩, ⟨some 8, .mv (.t 1), none⟩, ⟨some 9, .len (.t 8), none⟩, ⟨some 10, .bin .neq (.t 7) (.t 9), none⟩])
  (.cond (.t 10) (.seq (.ops false [⟨some 4, .mv (.c (.bool false)), none⟩])
   (.ret))
   (.skip)))
  (.seq (.seq (.ops false [⟨some 11, .mv (.t 0), none⟩, ⟨some 12, .len (.t 11), none⟩, ⟨some 13, .mv (.c (.int .i64 0)), none⟩])
  (.block 0 (.loop [0, 1, 12, 13] (some 0) (.seq (.ops false [⟨some 14, .bin .lss (.t 13) (.t 12), none⟩])
    (.seq (.cond (.t 14) (.skip)
     (.exit 0))
    (.seq (.block 1 (.seq (.ops false [⟨some 15, .mv (.t 13), none⟩, ⟨some 5, .mv (.t 15), none⟩])
     (.seq (.ops true [⟨some 16, .mv (.t 0), none⟩, ⟨some 17, .mv (.t 5), none⟩, ⟨some 18, .iaddr 1 (.t 16) (.t 17), none⟩, ⟨some 19, .load none (.t 18), none⟩, ⟨some 20, .mv (.t 1), none⟩, ⟨some 21, .mv (.t 5), none⟩, ⟨some 22, .iaddr 1 (.t 20) (.t 21), none⟩, ⟨some 23, .load none (.t 22), none⟩, ⟨some 24, .bin .neq (.t 19) (.t 23), none⟩])
     (.cond (.t 24) (.seq (.ops false [⟨some 4, .mv (.c (.bool false)), none⟩])
      (.ret))
      (.skip)))))
    (.ops false [⟨some 25, .bin .add (.t 13) (.c (.int .i64 1)), none⟩, ⟨some 13, .mv (.t 25), none⟩])))))))
  (.seq (.ops false [⟨some 4, .mv (.c (.bool true)), none⟩])
  (.ret)))),
  [.t 4]⟩

/- slices.Equal[[]int64,int64] -/
def d_slices_Equal_int64_int64 : DFun := ⟨
  .seq (.ops false [⟨some 4, .mv (.c (.bool false)), none⟩])
  (.seq (.seq (.ops false [⟨some 6, .mv (.t 0), none⟩, ⟨some 7, .len (.t 6), none⟩, ⟨some 8, .mv (.t 1), none⟩, ⟨some 9, .len (.t 8), none⟩, ⟨some 10, .bin .neq (.t 7) (.t 9), none⟩])
  (.cond (.t 10) (.seq (.ops false [⟨some 4, .mv (.c (.bool false)), none⟩])
   (.ret))
   (.skip)))
  (.seq (.seq (.ops false [⟨some 11, .mv (.t 0), none⟩, ⟨some 12, .len (.t 11), none⟩, ⟨some 13, .mv (.c (.int .i64 0)), none⟩])
  (.block 0 (.loop [0, 1, 12, 13] (some 0) (.seq (.ops false [⟨some 14, .bin .lss (.t 13) (.t 12), none⟩])
    (.seq (.cond (.t 14) (.skip)
     (.exit 0))
    (.seq (.block 1 (.seq (.ops false [⟨some 15, .mv (.t 13), none⟩, ⟨some 5, .mv (.t 15), none⟩])
     (.seq (.ops true [⟨some 16, .mv (.t 0), none⟩, ⟨some 17, .mv (.t 5), none⟩, ⟨some 18, .iaddr 1 (.t 16) (.t 17), none⟩, ⟨some 19, .load none (.t 18), none⟩, ⟨some 20, .mv (.t 1), none⟩, ⟨some 21, .mv (.t 5), none⟩, ⟨some 22, .iaddr 1 (.t 20) (.t 21), none⟩, ⟨some 23, .load none (.t 22), none⟩, ⟨some 24, .bin .neq (.t 19) (.t 23), none⟩])
     (.cond (.t 24) (.seq (.ops false [⟨some 4, .mv (.c (.bool false)), none⟩])
      (.ret))
      (.skip)))))
    (.ops false [⟨some 25, .bin .add (.t 13) (.c (.int .i64 1)), none⟩, ⟨some 13, .mv (.t 25), none⟩])))))))
  (.seq (.ops false [⟨some 4, .mv (.c (.bool true)), none⟩])
  (.ret)))),
  [.t 4]⟩

/- (*noria/reader.Writer).Text -/
def d_reader_Writer_Text : DFun := ⟨
  .seq (.ops false [⟨some 4, .mv (.t 0), none⟩, ⟨some 5, .mv (.t 1), none⟩, ⟨some 6, .lenS (.t 5), none⟩, ⟨some 7, .callH 20 [(.t 4), (.t 6), (.c (.int .i64 2))], none⟩])
  (.ops false [⟨some 8, .mv (.t 0), none⟩, ⟨some 9, .mv (.t 1), none⟩, ⟨some 10, .s2b (.t 9), none⟩, ⟨some 11, .callH 59 [(.t 8), (.t 10)], none⟩]),
  []⟩

/- (noria/image.writer).ty -/
def d_image_writer_ty : DFun := ⟨
  .seq (.ops false [⟨some 2, .box (.t 0), none⟩, ⟨some 3, .bref (.t 1), none⟩])
  (.seq (.ops false [⟨some 4, .faddr 0 (.t 2), none⟩, ⟨some 5, .load none (.t 4), none⟩, ⟨some 6, .faddr 0 (.t 3), none⟩, ⟨some 7, .load none (.t 6), none⟩, ⟨some 8, .callH 20 [(.t 5), (.t 7), (.c (.int .i64 1))], none⟩])
  (.seq (.ops false [⟨some 9, .faddr 0 (.t 2), none⟩, ⟨some 10, .load none (.t 9), none⟩, ⟨some 11, .faddr 1 (.t 3), none⟩, ⟨some 12, .load none (.t 11), none⟩, ⟨some 13, .callH 20 [(.t 10), (.t 12), (.c (.int .i64 1))], none⟩])
  (.ops false [⟨some 14, .faddr 0 (.t 2), none⟩, ⟨some 15, .load none (.t 14), none⟩, ⟨some 16, .faddr 2 (.t 3), none⟩, ⟨some 17, .load none (.t 16), none⟩, ⟨some 18, .callH 20 [(.t 15), (.t 17), (.c (.int .i64 1))], none⟩]))),
  []⟩

/- (*noria/reader.Writer).Int -/
def d_reader_Writer_Int : DFun := ⟨
  .seq (.ops false [⟨some 5, .mv (.t 1), none⟩, ⟨some 6, .callP 128 [(.t 5)], none⟩, ⟨some 4, .mv (.t 6), none⟩])
  (.seq (.ops false [⟨some 7, .mv (.t 0), none⟩, ⟨some 8, .mv (.t 4), none⟩, ⟨some 9, .len (.t 8), none⟩, ⟨some 10, .callH 20 [(.t 7), (.t 9), (.c (.int .i64 1))], none⟩])
  (.ops false [⟨some 11, .mv (.t 0), none⟩, ⟨some 12, .mv (.t 4), none⟩, ⟨some 13, .callH 59 [(.t 11), (.t 12)], none⟩])),
  []⟩

/- noria/instr.Right -/
def d_instr_Right : DFun := ⟨
  .seq (.ops false [⟨some 1, .box (.t 0), none⟩, ⟨some 2, .mv (.c (.bool false)), none⟩])
  (.seq (.ops false [⟨some 6, .faddr 0 (.t 1), none⟩, ⟨some 7, .load none (.t 6), none⟩, ⟨some 8, .callP 129 [(.t 7)], none⟩, ⟨some 5, .mv (.t 8), none⟩, ⟨some 9, .extract 0 (.t 5), none⟩, ⟨some 10, .extract 1 (.t 5), none⟩, ⟨some 3, .alloc [.str [], .bool false, .bool false, .bool false, .bool false], none⟩, ⟨none, .store 5 (.t 3) (.t 9), none⟩, ⟨some 4, .mv (.t 10), none⟩])
  (.seq (.seq (.ops false [⟨some 11, .mv (.t 4), none⟩, ⟨some 12, .un .not (.t 11), none⟩, ⟨some 13, .mv (.t 12), none⟩, ⟨some 14, .load (some 4) (.t 1), some (13, false)⟩, ⟨some 15, .callP 130 [(.t 14)], some (13, false)⟩, ⟨some 16, .un .not (.t 15), some (13, false)⟩, ⟨some 17, .pick (.t 13) (.c (.bool true)) (.t 16), none⟩, ⟨some 18, .mv (.t 17), none⟩, ⟨some 19, .faddr 4 (.t 3), some (18, false)⟩, ⟨some 20, .load none (.t 19), some (18, false)⟩, ⟨some 21, .un .not (.t 20), some (18, false)⟩, ⟨some 22, .mv (.t 21), some (18, false)⟩, ⟨some 23, .faddr 3 (.t 1), some (22, true)⟩, ⟨some 24, .load none (.t 23), some (22, true)⟩, ⟨some 25, .bin .neq (.t 24) (.c (.int .i64 0)), some (22, true)⟩, ⟨some 26, .pick (.t 22) (.t 25) (.c (.bool false)), some (18, false)⟩, ⟨some 27, .pick (.t 18) (.c (.bool true)) (.t 26), none⟩])
  (.cond (.t 27) (.seq (.ops false [⟨some 2, .mv (.c (.bool false)), none⟩])
   (.ret))
   (.skip)))
  (.seq (.seq (.ops false [⟨some 28, .faddr 3 (.t 3), none⟩, ⟨some 29, .load none (.t 28), none⟩])
  (.cond (.t 29) (.seq (.ops false [⟨some 30, .faddr 2 (.t 1), none⟩, ⟨some 31, .load none (.t 30), none⟩, ⟨some 32, .callP 131 [(.t 31), (.c (.int .i64 1)), (.c (.int .i64 8))], none⟩, ⟨some 2, .mv (.t 32), none⟩])
   (.ret))
   (.skip)))
  (.seq (.ops false [⟨some 33, .faddr 2 (.t 1), none⟩, ⟨some 34, .load none (.t 33), none⟩, ⟨some 35, .bin .eql (.t 34) (.c (.int .i64 0)), none⟩, ⟨some 2, .mv (.t 35), none⟩])
  (.ret))))),
  [.t 2]⟩

/- (noria/instr.out).instr -/
def d_instr_out_instr : DFun := ⟨
  .seq (.ops false [⟨some 2, .box (.t 0), none⟩, ⟨some 3, .box (.t 1), none⟩])
  (.seq (.ops false [⟨some 7, .faddr 0 (.t 3), none⟩, ⟨some 8, .load none (.t 7), none⟩, ⟨some 9, .callP 129 [(.t 8)], none⟩, ⟨some 6, .mv (.t 9), none⟩, ⟨some 10, .extract 0 (.t 6), none⟩, ⟨some 11, .extract 1 (.t 6), none⟩, ⟨some 4, .alloc [.str [], .bool false, .bool false, .bool false, .bool false], none⟩, ⟨none, .store 5 (.t 4) (.t 10), none⟩, ⟨some 5, .mv (.t 11), none⟩])
  (.seq (.ops false [⟨some 12, .faddr 0 (.t 2), none⟩, ⟨some 13, .load none (.t 12), none⟩, ⟨some 14, .faddr 0 (.t 3), none⟩, ⟨some 15, .load none (.t 14), none⟩, ⟨some 16, .callH 20 [(.t 13), (.t 15), (.c (.int .i64 1))], none⟩])
  (.seq (.seq (.ops false [⟨some 17, .faddr 1 (.t 4), none⟩, ⟨some 18, .load none (.t 17), none⟩])
  (.cond (.t 18) (.ops false [⟨some 19, .faddr 0 (.t 2), none⟩, ⟨some 20, .load none (.t 19), none⟩, ⟨some 21, .faddr 1 (.t 3), none⟩, ⟨some 22, .load none (.t 21), none⟩, ⟨some 23, .callH 20 [(.t 20), (.t 22), (.c (.int .i64 2))], none⟩])
   (.skip)))
  (.seq (.seq (.ops false [⟨some 24, .faddr 2 (.t 4), none⟩, ⟨some 25, .load none (.t 24), none⟩])
  (.cond (.t 25) (.ops false [⟨some 26, .faddr 0 (.t 2), none⟩, ⟨some 27, .load none (.t 26), none⟩, ⟨some 28, .faddr 1 (.t 3), none⟩, ⟨some 29, .load none (.t 28), none⟩, ⟨some 30, .callH 20 [(.t 27), (.t 29), (.c (.int .i64 1))], none⟩])
   (.skip)))
  (.seq (.seq (.ops false [⟨some 31, .faddr 3 (.t 4), none⟩, ⟨some 32, .load none (.t 31), none⟩])
  (.cond (.t 32) (.ops false [⟨some 33, .faddr 0 (.t 2), none⟩, ⟨some 34, .load none (.t 33), none⟩, ⟨some 35, .faddr 2 (.t 3), none⟩, ⟨some 36, .load none (.t 35), none⟩, ⟨some 37, .callH 20 [(.t 34), (.t 36), (.c (.int .i64 1))], none⟩])
   (.skip)))
  (.seq (.ops false [⟨some 38, .faddr 4 (.t 4), none⟩, ⟨some 39, .load none (.t 38), none⟩])
  (.cond (.t 39) (.ops false [⟨some 40, .faddr 0 (.t 2), none⟩, ⟨some 41, .load none (.t 40), none⟩, ⟨some 42, .faddr 3 (.t 3), none⟩, ⟨some 43, .load none (.t 42), none⟩, ⟨some 44, .callH 107 [(.t 41), (.t 43)], none⟩])
   (.skip)))))))),
  []⟩

/- noria/crc.New -/
def d_crc_New : DFun := ⟨
  .seq (.ops false [⟨some 0, .mv (.c (.nilp)), none⟩])
  (.seq (.ops false [⟨some 1, .build sumZ [(259, 1, (.c (.int .u32 4294967295))), (260, 1, (.c (.bool true)))], none⟩, ⟨some 2, .box (.t 1), none⟩, ⟨some 0, .mv (.t 2), none⟩])
  (.ret)),
  [.t 0]⟩

/- (*noria/crc.Sum).Add -/
def d_crc_Sum_Add : DFun := ⟨
  .seq (.seq (.ops false [⟨some 6, .mv (.t 0), none⟩, ⟨some 7, .peq false (.t 6) (.c (.nilp)), none⟩, ⟨some 8, .mv (.t 7), none⟩, ⟨some 9, .mv (.t 0), some (8, false)⟩, ⟨some 10, .nilck (.t 9), some (8, false)⟩, ⟨some 11, .faddr 260 (.t 10), some (8, false)⟩, ⟨some 12, .load none (.t 11), some (8, false)⟩, ⟨some 13, .un .not (.t 12), some (8, false)⟩, ⟨some 14, .pick (.t 8) (.c (.bool true)) (.t 13), none⟩])
  (.cond (.t 14) (.ret)
   (.skip)))
  (.seq (.ops false [⟨some 15, .mv (.t 0), none⟩, ⟨some 16, .nilck (.t 15), none⟩, ⟨some 17, .faddr 0 (.t 16), none⟩, ⟨some 18, .mv (.t 0), none⟩, ⟨some 19, .mkmeth 133 [(.t 18)], none⟩, ⟨some 20, .callH 132 [(.t 17), (.t 19)], none⟩])
  (.seq (.ops false [⟨some 21, .mv (.t 1), none⟩, ⟨some 22, .len (.t 21), none⟩, ⟨some 23, .mv (.c (.int .i64 0)), none⟩])
  (.block 0 (.loop [0, 21, 22, 23] none (.seq (.ops false [⟨some 24, .bin .lss (.t 23) (.t 22), none⟩])
    (.seq (.cond (.t 24) (.skip)
     (.exit 0))
    (.seq (.block 1 (.seq (.ops false [⟨some 25, .iaddr 1 (.t 21) (.t 23), none⟩, ⟨some 26, .load none (.t 25), none⟩, ⟨some 5, .mv (.t 26), none⟩])
     (.ops true [⟨some 27, .mv (.t 0), none⟩, ⟨some 28, .mv (.t 0), none⟩, ⟨some 29, .nilck (.t 28), none⟩, ⟨some 30, .faddr 259 (.t 29), none⟩, ⟨some 31, .load none (.t 30), none⟩, ⟨some 32, .bin .shr (.t 31) (.c (.int .u64 8)), none⟩, ⟨some 33, .mv (.t 0), none⟩, ⟨some 34, .mv (.t 0), none⟩, ⟨some 35, .nilck (.t 34), none⟩, ⟨some 36, .faddr 259 (.t 35), none⟩, ⟨some 37, .load none (.t 36), none⟩, ⟨some 38, .conv .u8 (.t 37), none⟩, ⟨some 39, .mv (.t 5), none⟩, ⟨some 40, .bin .xor (.t 38) (.t 39), none⟩, ⟨some 41, .nilck (.t 33), none⟩, ⟨some 42, .faddr 3 (.t 41), none⟩, ⟨some 43, .iaddrA 256 1 (.t 42) (.t 40), none⟩, ⟨some 44, .load none (.t 43), none⟩, ⟨some 45, .bin .xor (.t 32) (.t 44), none⟩, ⟨some 46, .nilck (.t 27), none⟩, ⟨some 47, .faddr 259 (.t 46), none⟩, ⟨none, .store 1 (.t 47) (.t 45), none⟩])))
    (.ops false [⟨some 48, .bin .add (.t 23) (.c (.int .i64 1)), none⟩, ⟨some 23, .mv (.t 48), none⟩])))))))),
  []⟩

/- (*noria/crc.Sum).Value -/
def d_crc_Sum_Value : DFun := ⟨
  .seq (.ops false [⟨some 2, .mv (.c (.int .u32 0)), none⟩])
  (.seq (.seq (.ops false [⟨some 3, .mv (.t 0), none⟩, ⟨some 4, .peq false (.t 3) (.c (.nilp)), none⟩, ⟨some 5, .mv (.t 4), none⟩, ⟨some 6, .mv (.t 0), some (5, false)⟩, ⟨some 7, .nilck (.t 6), some (5, false)⟩, ⟨some 8, .faddr 260 (.t 7), some (5, false)⟩, ⟨some 9, .load none (.t 8), some (5, false)⟩, ⟨some 10, .un .not (.t 9), some (5, false)⟩, ⟨some 11, .pick (.t 5) (.c (.bool true)) (.t 10), none⟩])
  (.cond (.t 11) (.seq (.ops false [⟨some 2, .mv (.c (.int .u32 0)), none⟩])
   (.ret))
   (.skip)))
  (.seq (.ops false [⟨some 12, .mv (.t 0), none⟩, ⟨some 13, .nilck (.t 12), none⟩, ⟨some 14, .faddr 259 (.t 13), none⟩, ⟨some 15, .load none (.t 14), none⟩, ⟨some 16, .un .xor (.t 15), none⟩, ⟨some 2, .mv (.t 16), none⟩])
  (.ret))),
  [.t 2]⟩

/- noria/noriaref28.place -/
/- noria/noriaref01.Int -/
/- noria/octet.Get -/
def d_octet_Get : DFun := ⟨
  .seq (.ops false [⟨some 2, .mv (.c (.int .u64 0)), none⟩])
  (.seq (.ops false [⟨some 3, .mv (.c (.int .u64 0)), none⟩])
  (.seq (.seq (.ops false [⟨some 6, .mv (.t 0), none⟩, ⟨some 7, .len (.t 6), none⟩, ⟨some 8, .mv (.c (.int .i64 0)), none⟩])
  (.block 0 (.loop [3, 6, 7, 8] (some 0) (.seq (.ops false [⟨some 9, .bin .lss (.t 8) (.t 7), none⟩])
    (.seq (.cond (.t 9) (.skip)
     (.exit 0))
    (.seq (.block 1 (.seq (.ops false [⟨some 10, .iaddr 1 (.t 6) (.t 8), none⟩, ⟨some 11, .load none (.t 10), none⟩, ⟨some 5, .mv (.t 11), none⟩])
     (.ops false [⟨some 12, .mv (.t 3), none⟩, ⟨some 13, .bin .shl (.t 12) (.c (.int .u64 8)), none⟩, ⟨some 14, .mv (.t 5), none⟩, ⟨some 15, .conv .u64 (.t 14), none⟩, ⟨some 16, .bin .or (.t 13) (.t 15), none⟩, ⟨some 3, .mv (.t 16), none⟩])))
    (.ops false [⟨some 17, .bin .add (.t 8) (.c (.int .i64 1)), none⟩, ⟨some 8, .mv (.t 17), none⟩])))))))
  (.seq (.ops false [⟨some 18, .mv (.t 3), none⟩, ⟨some 2, .mv (.t 18), none⟩])
  (.ret)))),
  [.t 2]⟩

/- (*noria/reader.Reader).next -/
def d_reader_Reader_next : DFun := ⟨
  .seq (.ops false [⟨some 4, .mv (.c (.nil)), none⟩])
  (.seq (.seq (.ops false [⟨some 6, .mv (.t 0), none⟩, ⟨some 7, .callH 78 [(.t 6)], none⟩, ⟨some 8, .un .not (.t 7), none⟩])
  (.cond (.t 8) (.seq (.ops false [⟨some 4, .mv (.c (.nil)), none⟩])
   (.ret))
   (.skip)))
  (.seq (.seq (.ops true [⟨some 9, .mv (.t 1), none⟩, ⟨some 10, .bin .lss (.t 9) (.c (.int .i64 0)), none⟩, ⟨some 11, .mv (.t 10), none⟩, ⟨some 12, .mv (.t 1), some (11, false)⟩, ⟨some 13, .mv (.t 0), some (11, false)⟩, ⟨some 14, .nilck (.t 13), some (11, false)⟩, ⟨some 15, .faddr 0 (.t 14), some (11, false)⟩, ⟨some 16, .faddr 0 (.t 15), some (11, false)⟩, ⟨some 17, .load none (.t 16), some (11, false)⟩, ⟨some 18, .len (.t 17), some (11, false)⟩, ⟨some 19, .mv (.t 0), some (11, false)⟩, ⟨some 20, .nilck (.t 19), some (11, false)⟩, ⟨some 21, .faddr 2 (.t 20), some (11, false)⟩, ⟨some 22, .load none (.t 21), some (11, false)⟩, ⟨some 23, .bin .sub (.t 18) (.t 22), some (11, false)⟩, ⟨some 24, .bin .gtr (.t 12) (.t 23), some (11, false)⟩, ⟨some 25, .pick (.t 11) (.c (.bool true)) (.t 24), none⟩])
  (.cond (.t 25) (.seq (.ops false [⟨some 26, .mv (.t 0), none⟩, ⟨some 27, .nilck (.t 26), none⟩, ⟨some 28, .faddr 0 (.t 27), none⟩, ⟨some 29, .callH 58 [(.t 28)], none⟩])
   (.seq (.ops false [⟨some 30, .mv (.t 0), none⟩, ⟨some 31, .nilck (.t 30), none⟩, ⟨some 32, .faddr 2 (.t 31), none⟩, ⟨none, .store 1 (.t 32) (.c (.int .i64 0)), none⟩])
   (.seq (.ops false [⟨some 4, .mv (.c (.nil)), none⟩])
   (.ret))))
   (.skip)))
  (.seq (.ops false [⟨some 33, .mv (.t 0), none⟩, ⟨some 34, .nilck (.t 33), none⟩, ⟨some 35, .faddr 2 (.t 34), none⟩, ⟨some 36, .load none (.t 35), none⟩, ⟨some 5, .mv (.t 36), none⟩])
  (.seq (.ops false [⟨some 37, .mv (.t 0), none⟩, ⟨some 38, .nilck (.t 37), none⟩, ⟨some 39, .faddr 2 (.t 38), none⟩, ⟨some 40, .load none (.t 39), none⟩, ⟨some 41, .mv (.t 1), none⟩, ⟨some 42, .bin .add (.t 40) (.t 41), none⟩, ⟨some 43, .nilck (.t 37), none⟩, ⟨some 44, .faddr 2 (.t 43), none⟩, ⟨none, .store 1 (.t 44) (.t 42), none⟩])
  (.seq (.ops true [⟨some 45, .mv (.t 0), none⟩, ⟨some 46, .nilck (.t 45), none⟩, ⟨some 47, .faddr 0 (.t 46), none⟩, ⟨some 48, .faddr 0 (.t 47), none⟩, ⟨some 49, .load none (.t 48), none⟩, ⟨some 50, .mv (.t 5), none⟩, ⟨some 51, .mv (.t 0), none⟩, ⟨some 52, .nilck (.t 51), none⟩, ⟨some 53, .faddr 2 (.t 52), none⟩, ⟨some 54, .load none (.t 53), none⟩, ⟨some 55, .mv (.t 0), none⟩, ⟨some 56, .nilck (.t 55), none⟩, ⟨some 57, .faddr 2 (.t 56), none⟩, ⟨some 58, .load none (.t 57), none⟩, ⟨some 59, .slice 1 (.t 49) (some (.t 50)) (some (.t 54)) (some (.t 58)), none⟩, ⟨some 4, .mv (.t 59), none⟩])
  (.ret)))))),
  [.t 4]⟩

/- (*noria/reader.Reader).Text -/
def d_reader_Reader_Text : DFun := ⟨
  .seq (.ops false [⟨some 2, .mv (.c (.str [])), none⟩])
  (.seq (.ops false [⟨some 3, .mv (.t 0), none⟩, ⟨some 4, .mv (.t 0), none⟩, ⟨some 5, .callH 76 [(.t 4), (.c (.int .i64 2))], none⟩, ⟨some 6, .callH 116 [(.t 3), (.t 5)], none⟩, ⟨some 7, .b2s (.t 6), none⟩, ⟨some 2, .mv (.t 7), none⟩])
  (.ret)),
  [.t 2]⟩

/- noria/image.some[string] -/
def d_image_some_string : DFun := ⟨
  .seq (.ops false [⟨some 3, .box (.t 0), none⟩, ⟨some 6, .mv (.c (.nil)), none⟩])
  (.seq (.ops false [⟨some 7, .mkown 1 (.c (.nil)), none⟩])
  (.seq (.seq (.ops false [⟨some 9, .faddr 0 (.t 3), none⟩, ⟨some 10, .load none (.t 9), none⟩, ⟨some 11, .mv (.t 1), none⟩, ⟨some 12, .callH 76 [(.t 10), (.t 11)], none⟩, ⟨some 13, .mv (.c (.int .i64 0)), none⟩])
  (.block 0 (.loop [2, 3, 7, 12, 13] none (.seq (.ops false [⟨some 14, .bin .lss (.t 13) (.t 12), none⟩])
    (.seq (.cond (.t 14) (.skip)
     (.exit 0))
    (.seq (.block 1 (.seq (.ops false [⟨some 15, .mv (.t 2), none⟩, ⟨some 16, .callvH (.t 15) [], none⟩, ⟨some 8, .mv (.t 16), none⟩])
     (.seq (.seq (.ops false [⟨some 17, .faddr 0 (.t 3), none⟩, ⟨some 18, .load none (.t 17), none⟩, ⟨some 19, .callH 78 [(.t 18)], none⟩, ⟨some 20, .un .not (.t 19), none⟩])
     (.cond (.t 20) (.seq (.ops false [⟨some 6, .fz (.mv (.c (.nil))), none⟩])
      (.ret))
      (.skip)))
     (.ops false [⟨some 21, .mv (.t 7), none⟩, ⟨some 22, .mv (.t 8), none⟩, ⟨some 23, .bslice true [.str []] [(some (.t 22))], none⟩, ⟨some 24, .append 1 (.t 21) (.t 23), none⟩, ⟨some 7, .mv (.t 24), none⟩]))))
    (.ops false [⟨some 25, .bin .add (.t 13) (.c (.int .i64 1)), none⟩, ⟨some 13, .mv (.t 25), none⟩])))))))
  (.seq (.ops false [⟨some 26, .fz (.mv (.t 7)), none⟩, ⟨some 6, .mv (.t 26), none⟩])
  (.ret)))),
  [.t 6]⟩

/- (noria/image.taker).ty -/
def d_image_taker_ty : DFun := ⟨
  .seq (.ops false [⟨some 1, .box (.t 0), none⟩, ⟨some 2, .alloc [.int .i64 0, .int .i64 0, .int .i64 0], none⟩])
  (.seq (.ops false [⟨some 5, .faddr 0 (.t 1), none⟩, ⟨some 6, .load none (.t 5), none⟩, ⟨some 7, .callH 76 [(.t 6), (.c (.int .i64 1))], none⟩, ⟨some 3, .mv (.t 7), none⟩])
  (.seq (.ops false [⟨some 8, .faddr 0 (.t 1), none⟩, ⟨some 9, .load none (.t 8), none⟩, ⟨some 10, .callH 76 [(.t 9), (.c (.int .i64 1))], none⟩, ⟨some 4, .mv (.t 10), none⟩])
  (.seq (.ops false [⟨some 11, .mv (.t 3), none⟩, ⟨some 12, .mv (.t 4), none⟩, ⟨some 13, .faddr 0 (.t 1), none⟩, ⟨some 14, .load none (.t 13), none⟩, ⟨some 15, .callH 76 [(.t 14), (.c (.int .i64 1))], none⟩, ⟨some 16, .build [.int .i64 0, .int .i64 0, .int .i64 0] [(0, 1, (.t 11)), (1, 1, (.t 12)), (2, 1, (.t 15))], none⟩, ⟨none, .store 3 (.t 2) (.t 16), none⟩])
  (.ret)))),
  [.cell 2 (some 3)]⟩

/- noria/image.some[int64] -/
def d_image_some_int64 : DFun := ⟨
  .seq (.ops false [⟨some 3, .box (.t 0), none⟩, ⟨some 6, .mv (.c (.nil)), none⟩])
  (.seq (.ops false [⟨some 7, .mkown 1 (.c (.nil)), none⟩])
  (.seq (.seq (.ops false [⟨some 9, .faddr 0 (.t 3), none⟩, ⟨some 10, .load none (.t 9), none⟩, ⟨some 11, .mv (.t 1), none⟩, ⟨some 12, .callH 76 [(.t 10), (.t 11)], none⟩, ⟨some 13, .mv (.c (.int .i64 0)), none⟩])
  (.block 0 (.loop [2, 3, 7, 12, 13] none (.seq (.ops false [⟨some 14, .bin .lss (.t 13) (.t 12), none⟩])
    (.seq (.cond (.t 14) (.skip)
     (.exit 0))
    (.seq (.block 1 (.seq (.ops false [⟨some 15, .mv (.t 2), none⟩, ⟨some 16, .callvH (.t 15) [], none⟩, ⟨some 8, .mv (.t 16), none⟩])
     (.seq (.seq (.ops false [⟨some 17, .faddr 0 (.t 3), none⟩, ⟨some 18, .load none (.t 17), none⟩, ⟨some 19, .callH 78 [(.t 18)], none⟩, ⟨some 20, .un .not (.t 19), none⟩])
     (.cond (.t 20) (.seq (.ops false [⟨some 6, .fz (.mv (.c (.nil))), none⟩])
      (.ret))
      (.skip)))
     (.ops false [⟨some 21, .mv (.t 7), none⟩, ⟨some 22, .mv (.t 8), none⟩, ⟨some 23, .bslice true [.int .i64 0] [(some (.t 22))], none⟩, ⟨some 24, .append 1 (.t 21) (.t 23), none⟩, ⟨some 7, .mv (.t 24), none⟩]))))
    (.ops false [⟨some 25, .bin .add (.t 13) (.c (.int .i64 1)), none⟩, ⟨some 13, .mv (.t 25), none⟩])))))))
  (.seq (.ops false [⟨some 26, .fz (.mv (.t 7)), none⟩, ⟨some 6, .mv (.t 26), none⟩])
  (.ret)))),
  [.t 6]⟩

/- (*noria/reader.Reader).Int -/
def d_reader_Reader_Int : DFun := ⟨
  .seq (.ops false [⟨some 2, .mv (.c (.int .i64 0)), none⟩])
  (.seq (.ops false [⟨some 6, .mv (.t 0), none⟩, ⟨some 7, .mv (.t 0), none⟩, ⟨some 8, .callH 76 [(.t 7), (.c (.int .i64 1))], none⟩, ⟨some 9, .callH 116 [(.t 6), (.t 8)], none⟩, ⟨some 3, .mv (.t 9), none⟩])
  (.seq (.seq (.ops false [⟨some 10, .mv (.t 0), none⟩, ⟨some 11, .callH 78 [(.t 10)], none⟩, ⟨some 12, .un .not (.t 11), none⟩])
  (.cond (.t 12) (.seq (.ops false [⟨some 2, .mv (.c (.int .i64 0)), none⟩])
   (.ret))
   (.skip)))
  (.seq (.ops false [⟨some 14, .mv (.t 3), none⟩, ⟨some 15, .callP 134 [(.t 14)], none⟩, ⟨some 13, .mv (.t 15), none⟩, ⟨some 16, .extract 0 (.t 13), none⟩, ⟨some 17, .extract 1 (.t 13), none⟩, ⟨some 4, .mv (.t 16), none⟩, ⟨some 5, .mv (.t 17), none⟩])
  (.seq (.seq (.ops false [⟨some 18, .mv (.t 5), none⟩, ⟨some 19, .un .not (.t 18), none⟩])
  (.cond (.t 19) (.ops false [⟨some 20, .mv (.t 0), none⟩, ⟨some 21, .callH 116 [(.t 20), (.c (.int .i64 (-1)))], none⟩])
   (.skip)))
  (.seq (.ops false [⟨some 22, .mv (.t 4), none⟩, ⟨some 2, .mv (.t 22), none⟩])
  (.ret)))))),
  [.t 2]⟩

/- (noria/instr.in).instr -/
def d_instr_in_instr : DFun := ⟨
  .seq (.ops false [⟨some 1, .box (.t 0), none⟩, ⟨some 2, .alloc [.int .i64 0, .int .i64 0, .int .i64 0, .int .i64 0], none⟩])
  (.seq (.ops false [⟨some 6, .faddr 0 (.t 1), none⟩, ⟨some 7, .load none (.t 6), none⟩, ⟨some 8, .callH 76 [(.t 7), (.c (.int .i64 1))], none⟩, ⟨some 9, .build [.int .i64 0, .int .i64 0, .int .i64 0, .int .i64 0] [(0, 1, (.t 8))], none⟩, ⟨some 3, .alloc [.int .i64 0, .int .i64 0, .int .i64 0, .int .i64 0], none⟩, ⟨none, .store 4 (.t 3) (.t 9), none⟩])
  (.seq (.ops false [⟨some 11, .faddr 0 (.t 3), none⟩, ⟨some 12, .load none (.t 11), none⟩, ⟨some 13, .callP 129 [(.t 12)], none⟩, ⟨some 10, .mv (.t 13), none⟩, ⟨some 14, .extract 0 (.t 10), none⟩, ⟨some 15, .extract 1 (.t 10), none⟩, ⟨some 4, .alloc [.str [], .bool false, .bool false, .bool false, .bool false], none⟩, ⟨none, .store 5 (.t 4) (.t 14), none⟩, ⟨some 5, .mv (.t 15), none⟩])
  (.seq (.seq (.ops false [⟨some 16, .faddr 1 (.t 4), none⟩, ⟨some 17, .load none (.t 16), none⟩])
  (.cond (.t 17) (.ops false [⟨some 18, .faddr 0 (.t 1), none⟩, ⟨some 19, .load none (.t 18), none⟩, ⟨some 20, .callH 76 [(.t 19), (.c (.int .i64 2))], none⟩, ⟨some 21, .faddr 1 (.t 3), none⟩, ⟨none, .store 1 (.t 21) (.t 20), none⟩])
   (.skip)))
  (.seq (.seq (.ops false [⟨some 22, .faddr 2 (.t 4), none⟩, ⟨some 23, .load none (.t 22), none⟩])
  (.cond (.t 23) (.ops false [⟨some 24, .faddr 0 (.t 1), none⟩, ⟨some 25, .load none (.t 24), none⟩, ⟨some 26, .callH 76 [(.t 25), (.c (.int .i64 1))], none⟩, ⟨some 27, .faddr 1 (.t 3), none⟩, ⟨none, .store 1 (.t 27) (.t 26), none⟩])
   (.skip)))
  (.seq (.seq (.ops false [⟨some 28, .faddr 3 (.t 4), none⟩, ⟨some 29, .load none (.t 28), none⟩])
  (.cond (.t 29) (.ops false [⟨some 30, .faddr 0 (.t 1), none⟩, ⟨some 31, .load none (.t 30), none⟩, ⟨some 32, .callH 76 [(.t 31), (.c (.int .i64 1))], none⟩, ⟨some 33, .faddr 2 (.t 3), none⟩, ⟨none, .store 1 (.t 33) (.t 32), none⟩])
   (.skip)))
  (.seq (.seq (.ops false [⟨some 34, .faddr 4 (.t 4), none⟩, ⟨some 35, .load none (.t 34), none⟩])
  (.cond (.t 35) (.ops false [⟨some 36, .faddr 0 (.t 1), none⟩, ⟨some 37, .load none (.t 36), none⟩, ⟨some 38, .callH 121 [(.t 37)], none⟩, ⟨some 39, .faddr 3 (.t 3), none⟩, ⟨none, .store 1 (.t 39) (.t 38), none⟩])
   (.skip)))
  (.seq (.ops false [⟨some 40, .load (some 4) (.t 3), none⟩, ⟨none, .store 4 (.t 2) (.t 40), none⟩])
  (.ret)))))))),
  [.cell 2 (some 4)]⟩

/- noria/noriaref01.Get -/
/- (*noria/noriaref03.R).take -/
/- noria/noriaref01.Back -/
/- noria/noriaref01.Names -/
def d_noriaref01_Names : DFun := ⟨
  .seq (.ops false [⟨some 4, .mv (.c (.bool false)), none⟩])
  (.seq (.seq (.ops false [⟨some 6, .mv (.t 0), none⟩, ⟨some 7, .len (.t 6), none⟩, ⟨some 8, .mv (.t 1), none⟩, ⟨some 9, .len (.t 8), none⟩, ⟨some 10, .bin .neq (.t 7) (.t 9), none⟩])
  (.cond (.t 10) (.seq (.ops false [⟨some 4, .mv (.c (.bool false)), none⟩])
   (.ret))
   (.skip)))
  (.seq (.seq (.ops false [⟨some 5, .mv (.c (.int .i64 0)), none⟩])
  (.block 0 (.loop [0, 1, 5] (some 0) (.seq (.seq (.ops false [⟨some 11, .mv (.t 5), none⟩, ⟨some 12, .mv (.t 0), none⟩, ⟨some 13, .len (.t 12), none⟩, ⟨some 14, .bin .lss (.t 11) (.t 13), none⟩])
    (.cond (.t 14) (.skip)
     (.exit 0)))
    (.seq (.block 1 (.seq (.ops true [⟨some 17, .mv (.t 0), none⟩, ⟨some 18, .mv (.t 5), none⟩, ⟨some 19, .iaddr 1 (.t 17) (.t 18), none⟩, ⟨some 20, .load none (.t 19), none⟩, ⟨some 21, .mv (.t 1), none⟩, ⟨some 22, .mv (.t 5), none⟩, ⟨some 23, .iaddr 1 (.t 21) (.t 22), none⟩, ⟨some 24, .load none (.t 23), none⟩, ⟨some 25, .bin .neq (.t 20) (.t 24), none⟩])
     (.cond (.t 25) (.seq (.ops false [⟨some 4, .mv (.c (.bool false)), none⟩])
      (.ret))
      (.skip))))
    (.ops false [⟨some 15, .mv (.t 5), none⟩, ⟨some 16, .bin .add (.t 15) (.c (.int .i64 1)), none⟩, ⟨some 5, .mv (.t 16), none⟩]))))))
  (.seq (.ops false [⟨some 4, .mv (.c (.bool true)), none⟩])
  (.ret)))),
  [.t 4]⟩

/- noria/noriaref01.Vals -/
def d_noriaref01_Vals : DFun := ⟨
  .seq (.ops false [⟨some 4, .mv (.c (.bool false)), none⟩])
  (.seq (.seq (.ops false [⟨some 6, .mv (.t 0), none⟩, ⟨some 7, .len (.t 6), none⟩, ⟨some 8, .mv (.t 1), none⟩, ⟨some 9, .len (.t 8), none⟩, ⟨some 10, .bin .neq (.t 7) (.t 9), none⟩])
  (.cond (.t 10) (.seq (.ops false [⟨some 4, .mv (.c (.bool false)), none⟩])
   (.ret))
   (.skip)))
  (.seq (.seq (.ops false [⟨some 5, .mv (.c (.int .i64 0)), none⟩])
  (.block 0 (.loop [0, 1, 5] (some 0) (.seq (.seq (.ops false [⟨some 11, .mv (.t 5), none⟩, ⟨some 12, .mv (.t 0), none⟩, ⟨some 13, .len (.t 12), none⟩, ⟨some 14, .bin .lss (.t 11) (.t 13), none⟩])
    (.cond (.t 14) (.skip)
     (.exit 0)))
    (.seq (.block 1 (.seq (.ops true [⟨some 17, .mv (.t 0), none⟩, ⟨some 18, .mv (.t 5), none⟩, ⟨some 19, .iaddr 1 (.t 17) (.t 18), none⟩, ⟨some 20, .load none (.t 19), none⟩, ⟨some 21, .mv (.t 1), none⟩, ⟨some 22, .mv (.t 5), none⟩, ⟨some 23, .iaddr 1 (.t 21) (.t 22), none⟩, ⟨some 24, .load none (.t 23), none⟩, ⟨some 25, .bin .neq (.t 20) (.t 24), none⟩])
     (.cond (.t 25) (.seq (.ops false [⟨some 4, .mv (.c (.bool false)), none⟩])
      (.ret))
      (.skip))))
    (.ops false [⟨some 15, .mv (.t 5), none⟩, ⟨some 16, .bin .add (.t 15) (.c (.int .i64 1)), none⟩, ⟨some 5, .mv (.t 16), none⟩]))))))
  (.seq (.ops false [⟨some 4, .mv (.c (.bool true)), none⟩])
  (.ret)))),
  [.t 4]⟩

/- noria/octet.Int -/
def d_octet_Int : DFun := ⟨
  .seq (.ops false [⟨some 2, .mv (.c (.nil)), none⟩])
  (.seq (.ops false [⟨some 4, .mv (.t 0), none⟩, ⟨some 5, .conv .u64 (.t 4), none⟩, ⟨some 6, .callP 60 [(.t 5), (.c (.int .i64 8))], none⟩, ⟨some 3, .mv (.t 6), none⟩])
  (.seq (.block 0 (.loop [3] (some 0) (.seq (.seq (.ops false [⟨some 7, .mv (.t 3), none⟩, ⟨some 8, .callP 135 [(.t 7)], none⟩])
    (.cond (.t 8) (.skip)
     (.exit 0)))
    (.block 1 (.ops false [⟨some 9, .mv (.t 3), none⟩, ⟨some 10, .slice 1 (.t 9) (some (.c (.int .i64 1))) none none, none⟩, ⟨some 3, .mv (.t 10), none⟩])))))
  (.seq (.ops false [⟨some 11, .mv (.t 3), none⟩, ⟨some 12, .callP 64 [(.t 11)], none⟩, ⟨some 2, .mv (.t 12), none⟩])
  (.ret)))),
  [.t 2]⟩

/- noria/instr.of -/
def d_instr_of : DFun := ⟨
  .seq (.ops false [⟨some 2, .alloc [.str [], .bool false, .bool false, .bool false, .bool false], none⟩, ⟨some 3, .mv (.c (.bool false)), none⟩])
  (.seq (.seq (.ops false [⟨some 4, .mv (.t 0), none⟩])
  (.block 0 (.seq (.ops false [⟨some 6, .bin .eql (.t 4) (.c (.int .i64 1)), none⟩, ⟨some 5, .mv (.t 6), none⟩])
   (.cond (.t 5) (.seq (.ops false [⟨some 7, .build [.str [], .bool false, .bool false, .bool false, .bool false] [(0, 1, (.c (.str [112, 117, 115, 104]))), (1, 1, (.c (.bool true))), (4, 1, (.c (.bool true)))], none⟩, ⟨none, .store 5 (.t 2) (.t 7), none⟩, ⟨some 3, .mv (.c (.bool true)), none⟩])
    (.ret))
    (.seq (.ops false [⟨some 9, .bin .eql (.t 4) (.c (.int .i64 2)), none⟩, ⟨some 8, .mv (.t 9), none⟩])
    (.cond (.t 8) (.seq (.ops false [⟨some 10, .build [.str [], .bool false, .bool false, .bool false, .bool false] [(0, 1, (.c (.str [108, 111, 97, 100]))), (1, 1, (.c (.bool true)))], none⟩, ⟨none, .store 5 (.t 2) (.t 10), none⟩, ⟨some 3, .mv (.c (.bool true)), none⟩])
     (.ret))
     (.seq (.ops false [⟨some 12, .bin .eql (.t 4) (.c (.int .i64 3)), none⟩, ⟨some 11, .mv (.t 12), none⟩])
     (.cond (.t 11) (.seq (.ops false [⟨some 13, .build [.str [], .bool false, .bool false, .bool false, .bool false] [(0, 1, (.c (.str [115, 116, 111, 114, 101]))), (1, 1, (.c (.bool true)))], none⟩, ⟨none, .store 5 (.t 2) (.t 13), none⟩, ⟨some 3, .mv (.c (.bool true)), none⟩])
      (.ret))
      (.seq (.ops false [⟨some 15, .bin .eql (.t 4) (.c (.int .i64 4)), none⟩, ⟨some 14, .mv (.t 15), none⟩])
      (.cond (.t 14) (.seq (.ops false [⟨some 16, .build [.str [], .bool false, .bool false, .bool false, .bool false] [(0, 1, (.c (.str [117, 110]))), (2, 1, (.c (.bool true)))], none⟩, ⟨none, .store 5 (.t 2) (.t 16), none⟩, ⟨some 3, .mv (.c (.bool true)), none⟩])
       (.ret))
       (.seq (.ops false [⟨some 18, .bin .eql (.t 4) (.c (.int .i64 5)), none⟩, ⟨some 17, .mv (.t 18), none⟩])
       (.cond (.t 17) (.seq (.ops false [⟨some 19, .build [.str [], .bool false, .bool false, .bool false, .bool false] [(0, 1, (.c (.str [98, 105, 110]))), (2, 1, (.c (.bool true)))], none⟩, ⟨none, .store 5 (.t 2) (.t 19), none⟩, ⟨some 3, .mv (.c (.bool true)), none⟩])
        (.ret))
        (.seq (.ops false [⟨some 21, .bin .eql (.t 4) (.c (.int .i64 6)), none⟩, ⟨some 20, .mv (.t 21), none⟩])
        (.cond (.t 20) (.seq (.ops false [⟨some 22, .build [.str [], .bool false, .bool false, .bool false, .bool false] [(0, 1, (.c (.str [106, 117, 109, 112]))), (1, 1, (.c (.bool true)))], none⟩, ⟨none, .store 5 (.t 2) (.t 22), none⟩, ⟨some 3, .mv (.c (.bool true)), none⟩])
         (.ret))
         (.seq (.ops false [⟨some 24, .bin .eql (.t 4) (.c (.int .i64 7)), none⟩, ⟨some 23, .mv (.t 24), none⟩])
         (.cond (.t 23) (.seq (.ops false [⟨some 25, .build [.str [], .bool false, .bool false, .bool false, .bool false] [(0, 1, (.c (.str [122, 101, 114, 111]))), (1, 1, (.c (.bool true)))], none⟩, ⟨none, .store 5 (.t 2) (.t 25), none⟩, ⟨some 3, .mv (.c (.bool true)), none⟩])
          (.ret))
          (.seq (.ops false [⟨some 27, .bin .eql (.t 4) (.c (.int .i64 8)), none⟩, ⟨some 26, .mv (.t 27), none⟩])
          (.cond (.t 26) (.seq (.ops false [⟨some 28, .build [.str [], .bool false, .bool false, .bool false, .bool false] [(0, 1, (.c (.str [103, 101, 116]))), (1, 1, (.c (.bool true))), (3, 1, (.c (.bool true)))], none⟩, ⟨none, .store 5 (.t 2) (.t 28), none⟩, ⟨some 3, .mv (.c (.bool true)), none⟩])
           (.ret))
           (.seq (.ops false [⟨some 30, .bin .eql (.t 4) (.c (.int .i64 9)), none⟩, ⟨some 29, .mv (.t 30), none⟩])
           (.cond (.t 29) (.seq (.ops false [⟨some 31, .build [.str [], .bool false, .bool false, .bool false, .bool false] [(0, 1, (.c (.str [112, 117, 116]))), (1, 1, (.c (.bool true))), (3, 1, (.c (.bool true)))], none⟩, ⟨none, .store 5 (.t 2) (.t 31), none⟩, ⟨some 3, .mv (.c (.bool true)), none⟩])
            (.ret))
            (.seq (.ops false [⟨some 33, .bin .eql (.t 4) (.c (.int .i64 10)), none⟩, ⟨some 32, .mv (.t 33), none⟩])
            (.cond (.t 32) (.seq (.ops false [⟨some 34, .build [.str [], .bool false, .bool false, .bool false, .bool false] [(0, 1, (.c (.str [104, 97, 108, 116])))], none⟩, ⟨none, .store 5 (.t 2) (.t 34), none⟩, ⟨some 3, .mv (.c (.bool true)), none⟩])
             (.ret))
             (.skip)))))))))))))))))))))))
  (.seq (.ops false [⟨some 35, .build [.str [], .bool false, .bool false, .bool false, .bool false] [], none⟩, ⟨none, .store 5 (.t 2) (.t 35), none⟩, ⟨some 3, .mv (.c (.bool false)), none⟩])
  (.ret))),
  [.cell 2 (some 5), .t 3]⟩

/- noria/instr.first -/
def d_instr_first : DFun := ⟨
  .seq (.ops false [⟨some 1, .box (.t 0), none⟩, ⟨some 2, .mv (.c (.bool false)), none⟩])
  (.seq (.seq (.ops false [⟨some 3, .faddr 0 (.t 1), none⟩, ⟨some 4, .load none (.t 3), none⟩])
  (.block 0 (.seq (.ops false [⟨some 6, .bin .eql (.t 4) (.c (.int .i64 1)), none⟩, ⟨some 5, .mv (.t 6), none⟩])
   (.cond (.t 5) (.seq (.ops false [⟨some 7, .faddr 1 (.t 1), none⟩, ⟨some 8, .load none (.t 7), none⟩, ⟨some 9, .callP 131 [(.t 8), (.c (.int .i64 1)), (.c (.int .i64 1000))], none⟩, ⟨some 2, .mv (.t 9), none⟩])
    (.ret))
    (.seq (.ops false [⟨some 11, .bin .eql (.t 4) (.c (.int .i64 4)), none⟩, ⟨some 10, .mv (.t 11), none⟩])
    (.cond (.t 10) (.seq (.ops false [⟨some 12, .faddr 1 (.t 1), none⟩, ⟨some 13, .load none (.t 12), none⟩, ⟨some 14, .bin .eql (.t 13) (.c (.int .i64 1)), none⟩, ⟨some 15, .mv (.t 14), none⟩, ⟨some 16, .faddr 1 (.t 1), some (15, false)⟩, ⟨some 17, .load none (.t 16), some (15, false)⟩, ⟨some 18, .bin .eql (.t 17) (.c (.int .i64 2)), some (15, false)⟩, ⟨some 19, .pick (.t 15) (.c (.bool true)) (.t 18), none⟩, ⟨some 2, .mv (.t 19), none⟩])
     (.ret))
     (.seq (.ops false [⟨some 21, .bin .eql (.t 4) (.c (.int .i64 5)), none⟩, ⟨some 20, .mv (.t 21), none⟩])
     (.cond (.t 20) (.seq (.ops false [⟨some 22, .faddr 1 (.t 1), none⟩, ⟨some 23, .load none (.t 22), none⟩, ⟨some 24, .callP 131 [(.t 23), (.c (.int .i64 3)), (.c (.int .i64 16))], none⟩, ⟨some 2, .mv (.t 24), none⟩])
      (.ret))
      (.seq (.ops false [⟨some 26, .bin .eql (.t 4) (.c (.int .i64 10)), none⟩, ⟨some 25, .mv (.t 26), none⟩])
      (.cond (.t 25) (.seq (.ops false [⟨some 27, .faddr 1 (.t 1), none⟩, ⟨some 28, .load none (.t 27), none⟩, ⟨some 29, .bin .eql (.t 28) (.c (.int .i64 0)), none⟩, ⟨some 2, .mv (.t 29), none⟩])
       (.ret))
       (.skip)))))))))))
  (.seq (.ops false [⟨some 30, .faddr 1 (.t 1), none⟩, ⟨some 31, .load none (.t 30), none⟩, ⟨some 32, .callP 131 [(.t 31), (.c (.int .i64 0)), (.c (.int .i64 65535))], none⟩, ⟨some 2, .mv (.t 32), none⟩])
  (.ret))),
  [.t 2]⟩

/- noria/instr.within -/
def d_instr_within : DFun := ⟨
  .seq (.ops false [⟨some 6, .mv (.c (.bool false)), none⟩])
  (.seq (.ops false [⟨some 7, .mv (.t 0), none⟩, ⟨some 8, .mv (.t 1), none⟩, ⟨some 9, .bin .geq (.t 7) (.t 8), none⟩, ⟨some 10, .mv (.t 9), none⟩, ⟨some 11, .mv (.t 0), some (10, true)⟩, ⟨some 12, .mv (.t 2), some (10, true)⟩, ⟨some 13, .bin .leq (.t 11) (.t 12), some (10, true)⟩, ⟨some 14, .pick (.t 10) (.t 13) (.c (.bool false)), none⟩, ⟨some 6, .mv (.t 14), none⟩])
  (.ret)),
  [.t 6]⟩

/- (*sync.Once).Do -/
/- (*noria/crc.Sum).fill -/
def d_crc_Sum_fill : DFun := ⟨
  .seq (.ops false [⟨some 5, .mv (.c (.int .i64 0)), none⟩])
  (.block 0 (.loop [0, 5] none (.seq (.ops false [⟨some 6, .bin .lss (.t 5) (.c (.int .i64 256)), none⟩])
    (.seq (.cond (.t 6) (.skip)
     (.exit 0))
    (.seq (.block 1 (.seq (.ops false [⟨some 7, .mv (.t 5), none⟩, ⟨some 2, .mv (.t 7), none⟩])
     (.seq (.ops false [⟨some 8, .mv (.t 2), none⟩, ⟨some 9, .conv .u32 (.t 8), none⟩, ⟨some 3, .mv (.t 9), none⟩])
     (.seq (.seq (.ops false [⟨some 10, .mv (.c (.int .i64 0)), none⟩])
     (.block 2 (.loop [0, 2, 3, 5, 10] none (.seq (.ops false [⟨some 11, .bin .lss (.t 10) (.c (.int .i64 8)), none⟩])
       (.seq (.cond (.t 11) (.skip)
        (.exit 2))
       (.seq (.block 3 (.seq (.ops false [⟨some 12, .mv (.t 3), none⟩, ⟨some 13, .bin .and (.t 12) (.c (.int .u32 1)), none⟩, ⟨some 4, .mv (.t 13), none⟩])
        (.seq (.ops false [⟨some 14, .mv (.t 3), none⟩, ⟨some 15, .bin .shr (.t 14) (.c (.int .u64 1)), none⟩, ⟨some 3, .mv (.t 15), none⟩])
        (.seq (.ops false [⟨some 16, .mv (.t 4), none⟩, ⟨some 17, .bin .eql (.t 16) (.c (.int .u32 1)), none⟩])
        (.cond (.t 17) (.ops false [⟨some 18, .mv (.t 3), none⟩, ⟨some 19, .bin .xor (.t 18) (.c (.int .u32 3988292384)), none⟩, ⟨some 3, .mv (.t 19), none⟩])
         (.skip))))))
       (.ops false [⟨some 20, .bin .add (.t 10) (.c (.int .i64 1)), none⟩, ⟨some 10, .mv (.t 20), none⟩])))))))
     (.ops false [⟨some 21, .mv (.t 0), none⟩, ⟨some 22, .mv (.t 2), none⟩, ⟨some 23, .mv (.t 3), none⟩, ⟨some 24, .nilck (.t 21), none⟩, ⟨some 25, .faddr 3 (.t 24), none⟩, ⟨some 26, .iaddrA 256 1 (.t 25) (.t 22), none⟩, ⟨none, .store 1 (.t 26) (.t 23), none⟩])))))
    (.ops false [⟨some 27, .bin .add (.t 5) (.c (.int .i64 1)), none⟩, ⟨some 5, .mv (.t 27), none⟩])))))),
  []⟩

/- noria/octet.Back -/
def d_octet_Back : DFun := ⟨
  .seq (.ops false [⟨some 2, .mv (.c (.int .i64 0)), none⟩, ⟨some 3, .mv (.c (.bool false)), none⟩])
  (.seq (.seq (.ops false [⟨some 5, .mv (.t 0), none⟩, ⟨some 6, .len (.t 5), none⟩, ⟨some 7, .bin .lss (.t 6) (.c (.int .i64 1)), none⟩, ⟨some 8, .mv (.t 7), none⟩, ⟨some 9, .mv (.t 0), some (8, false)⟩, ⟨some 10, .len (.t 9), some (8, false)⟩, ⟨some 11, .bin .gtr (.t 10) (.c (.int .i64 8)), some (8, false)⟩, ⟨some 12, .pick (.t 8) (.c (.bool true)) (.t 11), none⟩, ⟨some 13, .mv (.t 12), none⟩, ⟨some 14, .mv (.t 0), some (13, false)⟩, ⟨some 15, .callP 135 [(.t 14)], some (13, false)⟩, ⟨some 16, .pick (.t 13) (.c (.bool true)) (.t 15), none⟩])
  (.cond (.t 16) (.seq (.ops false [⟨some 2, .mv (.c (.int .i64 0)), none⟩, ⟨some 3, .mv (.c (.bool false)), none⟩])
   (.ret))
   (.skip)))
  (.seq (.ops false [⟨some 17, .mv (.t 0), none⟩, ⟨some 18, .len (.t 17), none⟩, ⟨some 19, .bin .sub (.c (.int .i64 8)) (.t 18), none⟩, ⟨some 20, .bin .mul (.c (.int .i64 8)) (.t 19), none⟩, ⟨some 4, .mv (.t 20), none⟩])
  (.seq (.ops false [⟨some 21, .mv (.t 0), none⟩, ⟨some 22, .callP 115 [(.t 21)], none⟩, ⟨some 23, .mv (.t 4), none⟩, ⟨some 24, .bin .shl (.t 22) (.t 23), none⟩, ⟨some 25, .conv .i64 (.t 24), none⟩, ⟨some 26, .mv (.t 4), none⟩, ⟨some 27, .bin .shr (.t 25) (.t 26), none⟩, ⟨some 2, .mv (.t 27), none⟩, ⟨some 3, .mv (.c (.bool true)), none⟩])
  (.ret)))),
  [.t 2, .t 3]⟩

/- noria/octet.idle -/
def d_octet_idle : DFun := ⟨
  .seq (.ops false [⟨some 2, .mv (.c (.bool false)), none⟩])
  (.seq (.seq (.ops false [⟨some 4, .mv (.t 0), none⟩, ⟨some 5, .len (.t 4), none⟩, ⟨some 6, .bin .lss (.t 5) (.c (.int .i64 2)), none⟩])
  (.cond (.t 6) (.seq (.ops false [⟨some 2, .mv (.c (.bool false)), none⟩])
   (.ret))
   (.skip)))
  (.seq (.ops false [⟨some 7, .mv (.t 0), none⟩, ⟨some 8, .iaddr 1 (.t 7) (.c (.int .i64 1)), none⟩, ⟨some 9, .load none (.t 8), none⟩, ⟨some 10, .bin .and (.t 9) (.c (.int .u8 128)), none⟩, ⟨some 11, .bin .neq (.t 10) (.c (.int .u8 0)), none⟩, ⟨some 3, .mv (.t 11), none⟩])
  (.seq (.ops false [⟨some 12, .mv (.t 0), none⟩, ⟨some 13, .iaddr 1 (.t 12) (.c (.int .i64 0)), none⟩, ⟨some 14, .load none (.t 13), none⟩, ⟨some 15, .bin .eql (.t 14) (.c (.int .u8 0)), none⟩, ⟨some 16, .mv (.t 15), none⟩, ⟨some 17, .mv (.t 3), some (16, true)⟩, ⟨some 18, .un .not (.t 17), some (16, true)⟩, ⟨some 19, .pick (.t 16) (.t 18) (.c (.bool false)), none⟩, ⟨some 20, .mv (.t 19), none⟩, ⟨some 21, .mv (.t 0), some (20, false)⟩, ⟨some 22, .iaddr 1 (.t 21) (.c (.int .i64 0)), some (20, false)⟩, ⟨some 23, .load none (.t 22), some (20, false)⟩, ⟨some 24, .bin .eql (.t 23) (.c (.int .u8 255)), some (20, false)⟩, ⟨some 25, .mv (.t 24), some (20, false)⟩, ⟨some 26, .mv (.t 3), some (25, true)⟩, ⟨some 27, .pick (.t 25) (.t 26) (.c (.bool false)), some (20, false)⟩, ⟨some 28, .pick (.t 20) (.c (.bool true)) (.t 27), none⟩, ⟨some 2, .mv (.t 28), none⟩])
  (.ret)))),
  [.t 2]⟩

/- (*sync/atomic.Bool).Load -/
/- (*sync.Once).doSlow -/
/- (*sync.Mutex).Lock -/
/- (*sync.Mutex).Unlock -/
/- (*sync/atomic.Bool).Store -/
/- (*internal/sync.Mutex).Lock -/
/- (*internal/sync.Mutex).Unlock -/
/- sync/atomic.b32 -/
/- (*internal/sync.Mutex).lockSlow -/
/- (*internal/sync.Mutex).unlockSlow -/
end Go.Proofs.YtfaailjhioobhaaGreat
