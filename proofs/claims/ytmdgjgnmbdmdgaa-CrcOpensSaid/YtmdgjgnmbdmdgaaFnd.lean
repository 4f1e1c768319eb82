/- The data-level reading of the functions. -/
import Derived.Test.YtmdgjgnmbdmdgaaNkZ
set_option linter.all false
namespace Go.Proofs.Ytmdgjgnmbdmdgaa
open Go.Nk

/-- The cells of a Sum: done, the lock's state, its table, its register, and whether it was made. -/
def sumRow (d st : Int) (t : List (BitVec 32)) (r : BitVec 32) (m : Bool) : List DV := .int .u32 d :: .int .i32 st :: .int .u32 0 :: (t.map (fun x => DV.int .u32 (x.toNat : Int)) ++ [.int .u32 (r.toNat : Int), .bool m])
def sumZ : List DV := sumRow 0 0 (List.replicate 256 0#32) 0#32 false

/- noria/norialaw02.CrcSums -/
def d_norialaw02_CrcSums : DFun := ⟨
  .seq (.ops false [⟨some 2, .mv (.c (.bool false)), none⟩])
  (.seq (.seq (.ops false [⟨some 8, .mv (.t 0), none⟩, ⟨some 9, .len (.t 8), none⟩, ⟨some 10, .bin .gtr (.t 9) (.c (.int .i64 20)), none⟩])
  (.cond (.t 10) (.seq (.ops false [⟨some 11, .callP 6 [], none⟩, ⟨some 2, .mv (.t 11), none⟩])
   (.ret))
   (.skip)))
  (.seq (.ops false [⟨some 12, .bslice false [.int .u8 0] [], none⟩, ⟨some 3, .mv (.t 12), none⟩])
  (.seq (.ops false [⟨some 13, .callH 7 [], none⟩, ⟨some 4, .mv (.t 13), none⟩])
  (.seq (.seq (.ops false [⟨some 5, .mv (.c (.int .i64 0)), none⟩])
  (.block 0 (.loop [0, 3, 4, 5] none (.seq (.seq (.ops false [⟨some 14, .mv (.t 5), none⟩, ⟨some 15, .mv (.t 0), none⟩, ⟨some 16, .len (.t 15), none⟩, ⟨some 17, .bin .lss (.t 14) (.t 16), none⟩])
    (.cond (.t 17) (.skip)
     (.exit 0)))
    (.seq (.block 1 (.seq (.seq (.ops false [⟨some 20, .mv (.t 0), none⟩, ⟨some 21, .mv (.t 5), none⟩, ⟨some 22, .iaddr 1 (.t 20) (.t 21), none⟩, ⟨some 23, .load none (.t 22), none⟩, ⟨some 24, .len (.t 23), none⟩, ⟨some 25, .bin .gtr (.t 24) (.c (.int .i64 100)), none⟩])
     (.cond (.t 25) (.seq (.ops false [⟨some 26, .callP 6 [], none⟩, ⟨some 2, .mv (.t 26), none⟩])
      (.ret))
      (.skip)))
     (.seq (.ops false [⟨some 27, .mv (.t 3), none⟩, ⟨some 28, .mv (.t 0), none⟩, ⟨some 29, .mv (.t 5), none⟩, ⟨some 30, .iaddr 1 (.t 28) (.t 29), none⟩, ⟨some 31, .load none (.t 30), none⟩, ⟨some 32, .append 1 (.t 27) (.t 31), none⟩, ⟨some 3, .mv (.t 32), none⟩])
     (.seq (.ops false [⟨some 33, .mv (.t 4), none⟩, ⟨some 34, .mv (.t 0), none⟩, ⟨some 35, .mv (.t 5), none⟩, ⟨some 36, .iaddr 1 (.t 34) (.t 35), none⟩, ⟨some 37, .load none (.t 36), none⟩, ⟨some 38, .callH 8 [(.t 33), (.t 37)], none⟩])
     (.seq (.ops false [⟨some 39, .mv (.t 4), none⟩, ⟨some 40, .callH 9 [(.t 39)], none⟩, ⟨some 41, .mv (.t 3), none⟩, ⟨some 42, .callP 10 [(.t 41)], none⟩, ⟨some 43, .bin .neq (.t 40) (.t 42), none⟩])
     (.cond (.t 43) (.seq (.ops false [⟨some 2, .mv (.c (.bool false)), none⟩])
      (.ret))
      (.skip)))))))
    (.ops false [⟨some 18, .mv (.t 5), none⟩, ⟨some 19, .bin .add (.t 18) (.c (.int .i64 1)), none⟩, ⟨some 5, .mv (.t 19), none⟩]))))))
  (.seq (.ops false [⟨some 6, .mv (.c (.nilp)), none⟩])
  (.seq (.ops false [⟨some 44, .mv (.t 6), none⟩, ⟨some 45, .bslice true [.int .u8 0] [(some (.c (.int .u8 1)))], none⟩, ⟨some 46, .callH 8 [(.t 44), (.t 45)], none⟩])
  (.seq (.ops false [⟨some 47, .build sumZ [], none⟩, ⟨some 48, .box (.t 47), none⟩, ⟨some 7, .mv (.t 48), none⟩])
  (.seq (.ops false [⟨some 49, .mv (.t 7), none⟩, ⟨some 50, .bslice true [.int .u8 0] [(some (.c (.int .u8 1)))], none⟩, ⟨some 51, .callH 8 [(.t 49), (.t 50)], none⟩])
  (.seq (.ops false [⟨some 52, .mv (.t 3), none⟩, ⟨some 53, .callP 11 [(.t 52)], none⟩, ⟨some 54, .mv (.t 3), none⟩, ⟨some 55, .callP 10 [(.t 54)], none⟩, ⟨some 56, .bin .eql (.t 53) (.t 55), none⟩, ⟨some 57, .mv (.t 56), none⟩, ⟨some 58, .mv (.t 6), some (57, true)⟩, ⟨some 59, .callH 9 [(.t 58)], some (57, true)⟩, ⟨some 60, .bin .eql (.t 59) (.c (.int .u32 0)), some (57, true)⟩, ⟨some 61, .pick (.t 57) (.t 60) (.c (.bool false)), none⟩, ⟨some 62, .mv (.t 61), none⟩, ⟨some 63, .mv (.t 7), some (62, true)⟩, ⟨some 64, .callH 9 [(.t 63)], some (62, true)⟩, ⟨some 65, .bin .eql (.t 64) (.c (.int .u32 0)), some (62, true)⟩, ⟨some 66, .pick (.t 62) (.t 65) (.c (.bool false)), none⟩, ⟨some 67, .mv (.t 66), none⟩, ⟨some 68, .callH 7 [], some (67, true)⟩, ⟨some 69, .callH 9 [(.t 68)], some (67, true)⟩, ⟨some 70, .bin .eql (.t 69) (.c (.int .u32 0)), some (67, true)⟩, ⟨some 71, .pick (.t 67) (.t 70) (.c (.bool false)), none⟩, ⟨some 72, .mv (.t 71), none⟩, ⟨some 73, .callP 6 [], some (72, true)⟩, ⟨some 74, .pick (.t 72) (.t 73) (.c (.bool false)), none⟩, ⟨some 2, .mv (.t 74), none⟩])
  (.ret)))))))))),
  [.t 2]⟩

/- noria/norialaw02.CrcOpens -/
def d_norialaw02_CrcOpens : DFun := ⟨
  .seq (.ops false [⟨some 2, .mv (.c (.bool false)), none⟩])
  (.seq (.seq (.ops false [⟨some 7, .mv (.t 0), none⟩, ⟨some 8, .len (.t 7), none⟩, ⟨some 9, .bin .gtr (.t 8) (.c (.int .i64 1000)), none⟩])
  (.cond (.t 9) (.seq (.ops false [⟨some 10, .callP 6 [], none⟩, ⟨some 2, .mv (.t 10), none⟩])
   (.ret))
   (.skip)))
  (.seq (.ops false [⟨some 12, .mv (.t 0), none⟩, ⟨some 13, .callP 12 [(.t 12)], none⟩, ⟨some 11, .mv (.t 13), none⟩, ⟨some 14, .extract 0 (.t 11), none⟩, ⟨some 15, .extract 1 (.t 11), none⟩, ⟨some 3, .mv (.t 14), none⟩, ⟨some 4, .mv (.t 15), none⟩])
  (.seq (.ops false [⟨some 17, .mv (.t 0), none⟩, ⟨some 18, .callP 13 [(.t 17)], none⟩, ⟨some 16, .mv (.t 18), none⟩, ⟨some 19, .extract 0 (.t 16), none⟩, ⟨some 20, .extract 1 (.t 16), none⟩, ⟨some 5, .mv (.t 19), none⟩, ⟨some 6, .mv (.t 20), none⟩])
  (.seq (.ops false [⟨some 21, .mv (.t 0), none⟩, ⟨some 22, .callP 15 [(.t 21)], none⟩, ⟨some 23, .mv (.t 0), none⟩, ⟨some 24, .callP 16 [(.t 23)], none⟩, ⟨some 25, .callP 14 [(.t 22), (.t 24)], none⟩, ⟨some 26, .mv (.t 25), none⟩, ⟨some 27, .mv (.t 3), some (26, true)⟩, ⟨some 28, .mv (.t 5), some (26, true)⟩, ⟨some 29, .callP 14 [(.t 27), (.t 28)], some (26, true)⟩, ⟨some 30, .pick (.t 26) (.t 29) (.c (.bool false)), none⟩, ⟨some 31, .mv (.t 30), none⟩, ⟨some 32, .mv (.t 4), some (31, true)⟩, ⟨some 33, .mv (.t 6), some (31, true)⟩, ⟨some 34, .beq false (.t 32) (.t 33), some (31, true)⟩, ⟨some 35, .pick (.t 31) (.t 34) (.c (.bool false)), none⟩, ⟨some 36, .mv (.t 35), none⟩, ⟨some 37, .callP 6 [], some (36, true)⟩, ⟨some 38, .pick (.t 36) (.t 37) (.c (.bool false)), none⟩, ⟨some 2, .mv (.t 38), none⟩])
  (.ret))))),
  [.t 2]⟩

/- noria/norialaw02.CrcTells -/
def d_norialaw02_CrcTells : DFun := ⟨
  .seq (.ops false [⟨some 6, .mv (.c (.bool false)), none⟩])
  (.seq (.seq (.ops false [⟨some 14, .mv (.t 0), none⟩, ⟨some 15, .len (.t 14), none⟩, ⟨some 16, .bin .gtr (.t 15) (.c (.int .i64 1000)), none⟩])
  (.cond (.t 16) (.seq (.ops false [⟨some 17, .callP 6 [], none⟩, ⟨some 6, .mv (.t 17), none⟩])
   (.ret))
   (.skip)))
  (.seq (.ops false [⟨some 18, .mv (.t 0), none⟩, ⟨some 19, .callP 15 [(.t 18)], none⟩, ⟨some 7, .mv (.t 19), none⟩])
  (.seq (.ops false [⟨some 21, .mv (.t 7), none⟩, ⟨some 22, .callP 12 [(.t 21)], none⟩, ⟨some 20, .mv (.t 22), none⟩, ⟨some 23, .extract 0 (.t 20), none⟩, ⟨some 24, .extract 1 (.t 20), none⟩, ⟨some 8, .mv (.t 23), none⟩, ⟨some 9, .mv (.t 24), none⟩])
  (.seq (.seq (.ops false [⟨some 25, .mv (.t 9), none⟩, ⟨some 26, .un .not (.t 25), none⟩, ⟨some 27, .mv (.t 26), none⟩, ⟨some 28, .mv (.t 8), some (27, false)⟩, ⟨some 29, .mv (.t 0), some (27, false)⟩, ⟨some 30, .callP 14 [(.t 28), (.t 29)], some (27, false)⟩, ⟨some 31, .un .not (.t 30), some (27, false)⟩, ⟨some 32, .pick (.t 27) (.c (.bool true)) (.t 31), none⟩, ⟨some 33, .mv (.t 32), none⟩, ⟨some 34, .mv (.t 7), some (33, false)⟩, ⟨some 35, .len (.t 34), some (33, false)⟩, ⟨some 36, .mv (.t 0), some (33, false)⟩, ⟨some 37, .len (.t 36), some (33, false)⟩, ⟨some 38, .bin .add (.t 37) (.c (.int .i64 4)), some (33, false)⟩, ⟨some 39, .bin .neq (.t 35) (.t 38), some (33, false)⟩, ⟨some 40, .pick (.t 33) (.c (.bool true)) (.t 39), none⟩])
  (.cond (.t 40) (.seq (.ops false [⟨some 6, .mv (.c (.bool false)), none⟩])
   (.ret))
   (.skip)))
  (.seq (.seq (.ops false [⟨some 41, .mv (.t 1), none⟩, ⟨some 42, .bin .lss (.t 41) (.c (.int .i64 0)), none⟩, ⟨some 43, .mv (.t 42), none⟩, ⟨some 44, .mv (.t 1), some (43, false)⟩, ⟨some 45, .mv (.t 0), some (43, false)⟩, ⟨some 46, .len (.t 45), some (43, false)⟩, ⟨some 47, .bin .mul (.c (.int .i64 8)) (.t 46), some (43, false)⟩, ⟨some 48, .bin .gtr (.t 44) (.t 47), some (43, false)⟩, ⟨some 49, .pick (.t 43) (.c (.bool true)) (.t 48), none⟩, ⟨some 50, .mv (.t 49), none⟩, ⟨some 51, .mv (.t 2), some (50, false)⟩, ⟨some 52, .bin .eql (.t 51) (.c (.int .u32 0)), some (50, false)⟩, ⟨some 53, .pick (.t 50) (.c (.bool true)) (.t 52), none⟩])
  (.cond (.t 53) (.seq (.ops false [⟨some 54, .callP 6 [], none⟩, ⟨some 6, .mv (.t 54), none⟩])
   (.ret))
   (.skip)))
  (.seq (.ops false [⟨some 55, .bslice false [.int .u8 0] [], none⟩, ⟨some 56, .mv (.t 7), none⟩, ⟨some 57, .append 1 (.t 55) (.t 56), none⟩, ⟨some 10, .mv (.t 57), none⟩])
  (.seq (.seq (.ops false [⟨some 11, .mv (.c (.int .i64 0)), none⟩])
  (.block 0 (.loop [1, 2, 10, 11] (some 1) (.seq (.seq (.ops false [⟨some 58, .mv (.t 11), none⟩, ⟨some 59, .bin .lss (.t 58) (.c (.int .i64 32)), none⟩])
    (.cond (.t 59) (.skip)
     (.exit 0)))
    (.seq (.block 1 (.seq (.ops false [⟨some 62, .mv (.t 2), none⟩, ⟨some 63, .mv (.t 11), none⟩, ⟨some 64, .conv .u64 (.t 63), none⟩, ⟨some 65, .bin .shr (.t 62) (.t 64), none⟩, ⟨some 66, .bin .rem (.t 65) (.c (.int .u32 2)), none⟩, ⟨some 67, .bin .eql (.t 66) (.c (.int .u32 1)), none⟩])
     (.cond (.t 67) (.ops false [⟨some 68, .mv (.t 10), none⟩, ⟨some 69, .mv (.t 1), none⟩, ⟨some 70, .mv (.t 11), none⟩, ⟨some 71, .bin .add (.t 69) (.t 70), none⟩, ⟨some 72, .bin .quo (.t 71) (.c (.int .i64 8)), none⟩, ⟨some 73, .mv (.t 10), none⟩, ⟨some 74, .mv (.t 1), none⟩, ⟨some 75, .mv (.t 11), none⟩, ⟨some 76, .bin .add (.t 74) (.t 75), none⟩, ⟨some 77, .bin .quo (.t 76) (.c (.int .i64 8)), none⟩, ⟨some 78, .iaddr 1 (.t 73) (.t 77), none⟩, ⟨some 79, .load none (.t 78), none⟩, ⟨some 80, .mv (.t 1), none⟩, ⟨some 81, .mv (.t 11), none⟩, ⟨some 82, .bin .add (.t 80) (.t 81), none⟩, ⟨some 83, .bin .rem (.t 82) (.c (.int .i64 8)), none⟩, ⟨some 84, .conv .u64 (.t 83), none⟩, ⟨some 85, .bin .shl (.c (.int .u8 1)) (.t 84), none⟩, ⟨some 86, .bin .xor (.t 79) (.t 85), none⟩, ⟨some 87, .iaddr 1 (.t 68) (.t 72), none⟩, ⟨none, .store 1 (.t 87) (.t 86), none⟩])
      (.skip))))
    (.ops false [⟨some 60, .mv (.t 11), none⟩, ⟨some 61, .bin .add (.t 60) (.c (.int .i64 1)), none⟩, ⟨some 11, .mv (.t 61), none⟩]))))))
  (.seq (.ops false [⟨some 89, .mv (.t 10), none⟩, ⟨some 90, .callP 12 [(.t 89)], none⟩, ⟨some 88, .mv (.t 90), none⟩, ⟨some 91, .extract 0 (.t 88), none⟩, ⟨some 92, .extract 1 (.t 88), none⟩, ⟨some 12, .mv (.t 91), none⟩, ⟨some 13, .mv (.t 92), none⟩])
  (.seq (.ops false [⟨some 93, .mv (.t 12), none⟩, ⟨some 94, .len (.t 93), none⟩, ⟨some 95, .bin .eql (.t 94) (.c (.int .i64 0)), none⟩, ⟨some 96, .mv (.t 95), none⟩, ⟨some 97, .mv (.t 13), some (96, true)⟩, ⟨some 98, .un .not (.t 97), some (96, true)⟩, ⟨some 99, .pick (.t 96) (.t 98) (.c (.bool false)), none⟩, ⟨some 100, .mv (.t 99), none⟩, ⟨some 101, .callP 6 [], some (100, true)⟩, ⟨some 102, .pick (.t 100) (.t 101) (.c (.bool false)), none⟩, ⟨some 6, .mv (.t 102), none⟩])
  (.ret)))))))))),
  [.t 6]⟩

/- noria/norialaw02.live -/
def d_norialaw02_live : DFun := ⟨
  .seq (.ops false [⟨some 0, .mv (.c (.bool false)), none⟩])
  (.seq (.ops false [⟨some 1, .bslice true [.int .u8 0] [(some (.c (.int .u8 49))), (some (.c (.int .u8 50))), (some (.c (.int .u8 51))), (some (.c (.int .u8 52))), (some (.c (.int .u8 53))), (some (.c (.int .u8 54))), (some (.c (.int .u8 55))), (some (.c (.int .u8 56))), (some (.c (.int .u8 57)))], none⟩, ⟨some 2, .callP 11 [(.t 1)], none⟩, ⟨some 3, .bin .eql (.t 2) (.c (.int .u32 3421780262)), none⟩, ⟨some 0, .mv (.t 3), none⟩])
  (.ret)),
  [.t 0]⟩

/- noria/crc.New -/
def d_crc_New : DFun := ⟨
  .seq (.ops false [⟨some 0, .mv (.c (.nilp)), none⟩])
  (.seq (.ops false [⟨some 1, .build sumZ [(259, 1, (.c (.int .u32 4294967295))), (260, 1, (.c (.bool true)))], none⟩, ⟨some 2, .box (.t 1), none⟩, ⟨some 0, .mv (.t 2), none⟩])
  (.ret)),
  [.t 0]⟩

/- (*noria/crc.Sum).Add -/
def d_crc_Sum_Add : DFun := ⟨
  .seq (.seq (.ops false [⟨some 6, .mv (.t 0), none⟩, ⟨some 7, .peq false (.t 6) (.c (.nilp)), none⟩, ⟨some 8, .mv (.t 7), none⟩, ⟨some 9, .mv (.t 0), some (8, false)⟩, ⟨some 10, .nilck (.t 9), some (8, false)⟩, ⟨some 11, .faddr 260 (.t 10), some (8, false)⟩, ⟨some 12, .load none (.t 11), some (8, false)⟩, ⟨some 13, .un .not (.t 12), some (8, false)⟩, ⟨some 14, .pick (.t 8) (.c (.bool true)) (.t 13), none⟩])
  (.cond (.t 14) (.ret)
   (.skip)))
  (.seq (.ops false [⟨some 15, .mv (.t 0), none⟩, ⟨some 16, .nilck (.t 15), none⟩, ⟨some 17, .faddr 0 (.t 16), none⟩, ⟨some 18, .mv (.t 0), none⟩, ⟨some 19, .mkmeth 18 [(.t 18)], none⟩, ⟨some 20, .callH 17 [(.t 17), (.t 19)], none⟩])
  (.seq (.ops false [⟨some 21, .mv (.t 1), none⟩, ⟨some 22, .len (.t 21), none⟩, ⟨some 23, .mv (.c (.int .i64 0)), none⟩])
  (.block 0 (.loop [0, 21, 22, 23] none (.seq (.ops false [⟨some 24, .bin .lss (.t 23) (.t 22), none⟩])
    (.seq (.cond (.t 24) (.skip)
     (.exit 0))
    (.seq (.block 1 (.seq (.ops false [⟨some 25, .iaddr 1 (.t 21) (.t 23), none⟩, ⟨some 26, .load none (.t 25), none⟩, ⟨some 5, .mv (.t 26), none⟩])
     (.ops true [⟨some 27, .mv (.t 0), none⟩, ⟨some 28, .mv (.t 0), none⟩, ⟨some 29, .nilck (.t 28), none⟩, ⟨some 30, .faddr 259 (.t 29), none⟩, ⟨some 31, .load none (.t 30), none⟩, ⟨some 32, .bin .shr (.t 31) (.c (.int .u64 8)), none⟩, ⟨some 33, .mv (.t 0), none⟩, ⟨some 34, .mv (.t 0), none⟩, ⟨some 35, .nilck (.t 34), none⟩, ⟨some 36, .faddr 259 (.t 35), none⟩, ⟨some 37, .load none (.t 36), none⟩, ⟨some 38, .conv .u8 (.t 37), none⟩, ⟨some 39, .mv (.t 5), none⟩, ⟨some 40, .bin .xor (.t 38) (.t 39), none⟩, ⟨some 41, .nilck (.t 33), none⟩, ⟨some 42, .faddr 3 (.t 41), none⟩, ⟨some 43, .iaddrA 256 1 (.t 42) (.t 40), none⟩, ⟨some 44, .load none (.t 43), none⟩, ⟨some 45, .bin .xor (.t 32) (.t 44), none⟩, ⟨some 46, .nilck (.t 27), none⟩, ⟨some 47, .faddr 259 (.t 46), none⟩, ⟨none, .store 1 (.t 47) (.t 45), none⟩])))
    (.ops false [⟨some 48, .bin .add (.t 23) (.c (.int .i64 1)), none⟩, ⟨some 23, .mv (.t 48), none⟩])))))))),
  []⟩

/- (*noria/crc.Sum).Value -/
def d_crc_Sum_Value : DFun := ⟨
  .seq (.ops false [⟨some 2, .mv (.c (.int .u32 0)), none⟩])
  (.seq (.seq (.ops false [⟨some 3, .mv (.t 0), none⟩, ⟨some 4, .peq false (.t 3) (.c (.nilp)), none⟩, ⟨some 5, .mv (.t 4), none⟩, ⟨some 6, .mv (.t 0), some (5, false)⟩, ⟨some 7, .nilck (.t 6), some (5, false)⟩, ⟨some 8, .faddr 260 (.t 7), some (5, false)⟩, ⟨some 9, .load none (.t 8), some (5, false)⟩, ⟨some 10, .un .not (.t 9), some (5, false)⟩, ⟨some 11, .pick (.t 5) (.c (.bool true)) (.t 10), none⟩])
  (.cond (.t 11) (.seq (.ops false [⟨some 2, .mv (.c (.int .u32 0)), none⟩])
   (.ret))
   (.skip)))
  (.seq (.ops false [⟨some 12, .mv (.t 0), none⟩, ⟨some 13, .nilck (.t 12), none⟩, ⟨some 14, .faddr 259 (.t 13), none⟩, ⟨some 15, .load none (.t 14), none⟩, ⟨some 16, .un .xor (.t 15), none⟩, ⟨some 2, .mv (.t 16), none⟩])
  (.ret))),
  [.t 2]⟩

/- noria/noriaref02.Of -/
def d_noriaref02_Of : DFun := ⟨
  .seq (.ops false [⟨some 2, .mv (.c (.int .u32 0)), none⟩])
  (.seq (.ops false [⟨some 3, .mv (.c (.int .u32 4294967295)), none⟩])
  (.seq (.seq (.ops false [⟨some 4, .mv (.c (.int .i64 0)), none⟩])
  (.block 0 (.loop [0, 3, 4] (some 0) (.seq (.seq (.ops false [⟨some 6, .mv (.t 4), none⟩, ⟨some 7, .mv (.t 0), none⟩, ⟨some 8, .len (.t 7), none⟩, ⟨some 9, .bin .lss (.t 6) (.t 8), none⟩])
    (.cond (.t 9) (.skip)
     (.exit 0)))
    (.seq (.block 1 (.seq (.ops false [⟨some 12, .mv (.t 3), none⟩, ⟨some 13, .mv (.t 0), none⟩, ⟨some 14, .mv (.t 4), none⟩, ⟨some 15, .iaddr 1 (.t 13) (.t 14), none⟩, ⟨some 16, .load none (.t 15), none⟩, ⟨some 17, .conv .u32 (.t 16), none⟩, ⟨some 18, .bin .xor (.t 12) (.t 17), none⟩, ⟨some 3, .mv (.t 18), none⟩])
     (.seq (.ops false [⟨some 5, .mv (.c (.int .i64 0)), none⟩])
     (.block 2 (.loop [0, 3, 4, 5] (some 0) (.seq (.seq (.ops false [⟨some 19, .mv (.t 5), none⟩, ⟨some 20, .bin .lss (.t 19) (.c (.int .i64 8)), none⟩])
       (.cond (.t 20) (.skip)
        (.exit 2)))
       (.seq (.block 3 (.seq (.ops false [⟨some 23, .mv (.t 3), none⟩, ⟨some 24, .bin .rem (.t 23) (.c (.int .u32 2)), none⟩, ⟨some 25, .bin .eql (.t 24) (.c (.int .u32 1)), none⟩])
        (.cond (.t 25) (.ops false [⟨some 26, .mv (.t 3), none⟩, ⟨some 27, .bin .quo (.t 26) (.c (.int .u32 2)), none⟩, ⟨some 28, .bin .xor (.t 27) (.c (.int .u32 3988292384)), none⟩, ⟨some 3, .mv (.t 28), none⟩])
         (.ops false [⟨some 29, .mv (.t 3), none⟩, ⟨some 30, .bin .quo (.t 29) (.c (.int .u32 2)), none⟩, ⟨some 3, .mv (.t 30), none⟩]))))
       (.ops false [⟨some 21, .mv (.t 5), none⟩, ⟨some 22, .bin .add (.t 21) (.c (.int .i64 1)), none⟩, ⟨some 5, .mv (.t 22), none⟩]))))))))
    (.ops false [⟨some 10, .mv (.t 4), none⟩, ⟨some 11, .bin .add (.t 10) (.c (.int .i64 1)), none⟩, ⟨some 4, .mv (.t 11), none⟩]))))))
  (.seq (.ops false [⟨some 31, .mv (.t 3), none⟩, ⟨some 32, .bin .sub (.c (.int .u32 4294967295)) (.t 31), none⟩, ⟨some 2, .mv (.t 32), none⟩])
  (.ret)))),
  [.t 2]⟩

/- noria/crc.Of -/
def d_crc_Of : DFun := ⟨
  .seq (.ops false [⟨some 2, .mv (.c (.int .u32 0)), none⟩])
  (.seq (.ops false [⟨some 4, .callH 7 [], none⟩, ⟨some 3, .mv (.t 4), none⟩])
  (.seq (.ops false [⟨some 5, .mv (.t 3), none⟩, ⟨some 6, .mv (.t 0), none⟩, ⟨some 7, .callH 8 [(.t 5), (.t 6)], none⟩])
  (.seq (.ops false [⟨some 8, .mv (.t 3), none⟩, ⟨some 9, .callH 9 [(.t 8)], none⟩, ⟨some 2, .mv (.t 9), none⟩])
  (.ret)))),
  [.t 2]⟩

/- noria/crc.Open -/
def d_crc_Open : DFun := ⟨
  .seq (.ops false [⟨some 2, .mv (.c (.nil)), none⟩, ⟨some 3, .mv (.c (.bool false)), none⟩])
  (.seq (.seq (.ops false [⟨some 5, .mv (.t 0), none⟩, ⟨some 6, .len (.t 5), none⟩, ⟨some 7, .bin .lss (.t 6) (.c (.int .i64 4)), none⟩])
  (.cond (.t 7) (.seq (.ops false [⟨some 2, .mv (.c (.nil)), none⟩, ⟨some 3, .mv (.c (.bool false)), none⟩])
   (.ret))
   (.skip)))
  (.seq (.ops false [⟨some 8, .mv (.t 0), none⟩, ⟨some 9, .len (.t 8), none⟩, ⟨some 10, .bin .sub (.t 9) (.c (.int .i64 4)), none⟩, ⟨some 4, .mv (.t 10), none⟩])
  (.seq (.seq (.opsP [(0, ⟨some 11, .mv (.t 0), none⟩), (1, ⟨some 12, .mv (.t 4), none⟩), (2, ⟨some 13, .slice 1 (.t 11) none (some (.t 12)) none, none⟩), (5, ⟨some 16, .mv (.t 0), none⟩), (6, ⟨some 17, .mv (.t 4), none⟩), (7, ⟨some 18, .slice 1 (.t 16) (some (.t 17)) none none, none⟩), (3, ⟨some 14, .callP 11 [(.t 13)], none⟩), (4, ⟨some 15, .callP 20 [(.t 14)], none⟩), (8, ⟨some 19, .callP 19 [(.t 15), (.t 18)], none⟩), (9, ⟨some 20, .un .not (.t 19), none⟩)])
  (.cond (.t 20) (.seq (.ops false [⟨some 2, .mv (.c (.nil)), none⟩, ⟨some 3, .mv (.c (.bool false)), none⟩])
   (.ret))
   (.skip)))
  (.seq (.ops false [⟨some 21, .mv (.t 0), none⟩, ⟨some 22, .mv (.t 4), none⟩, ⟨some 23, .slice 1 (.t 21) none (some (.t 22)) none, none⟩, ⟨some 24, .callP 21 [(.t 23)], none⟩, ⟨some 2, .mv (.t 24), none⟩, ⟨some 3, .mv (.c (.bool true)), none⟩])
  (.ret))))),
  [.t 2, .t 3]⟩

/- noria/noriaref02.Open -/
def d_noriaref02_Open : DFun := ⟨
  .seq (.ops false [⟨some 2, .mv (.c (.nil)), none⟩, ⟨some 3, .mv (.c (.bool false)), none⟩])
  (.seq (.seq (.ops false [⟨some 5, .mv (.t 0), none⟩, ⟨some 6, .len (.t 5), none⟩, ⟨some 7, .bin .lss (.t 6) (.c (.int .i64 4)), none⟩])
  (.cond (.t 7) (.seq (.ops false [⟨some 2, .mv (.c (.nil)), none⟩, ⟨some 3, .mv (.c (.bool false)), none⟩])
   (.ret))
   (.skip)))
  (.seq (.ops false [⟨some 8, .mv (.t 0), none⟩, ⟨some 9, .mv (.t 0), none⟩, ⟨some 10, .len (.t 9), none⟩, ⟨some 11, .bin .sub (.t 10) (.c (.int .i64 4)), none⟩, ⟨some 12, .slice 1 (.t 8) none (some (.t 11)) none, none⟩, ⟨some 4, .mv (.t 12), none⟩])
  (.seq (.seq (.opsP [(0, ⟨some 13, .mv (.t 4), none⟩), (3, ⟨some 16, .mv (.t 0), none⟩), (4, ⟨some 17, .mv (.t 0), none⟩), (5, ⟨some 18, .len (.t 17), none⟩), (6, ⟨some 19, .bin .sub (.t 18) (.c (.int .i64 4)), none⟩), (7, ⟨some 20, .slice 1 (.t 16) (some (.t 19)) none none, none⟩), (1, ⟨some 14, .callP 10 [(.t 13)], none⟩), (2, ⟨some 15, .callP 22 [(.t 14)], none⟩), (8, ⟨some 21, .callP 14 [(.t 15), (.t 20)], none⟩), (9, ⟨some 22, .un .not (.t 21), none⟩)])
  (.cond (.t 22) (.seq (.ops false [⟨some 2, .mv (.c (.nil)), none⟩, ⟨some 3, .mv (.c (.bool false)), none⟩])
   (.ret))
   (.skip)))
  (.seq (.ops false [⟨some 23, .mv (.t 4), none⟩, ⟨some 2, .mv (.t 23), none⟩, ⟨some 3, .mv (.c (.bool true)), none⟩])
  (.ret))))),
  [.t 2, .t 3]⟩

/- noria/noriaref01.Same -/
def d_noriaref01_Same : DFun := ⟨
  .seq (.ops false [⟨some 4, .mv (.c (.bool false)), none⟩])
  (.seq (.seq (.ops false [⟨some 6, .mv (.t 0), none⟩, ⟨some 7, .len (.t 6), none⟩, ⟨some 8, .mv (.t 1), none⟩, ⟨some 9, .len (.t 8), none⟩, ⟨some 10, .bin .neq (.t 7) (.t 9), none⟩])
  (.cond (.t 10) (.seq (.ops false [⟨some 4, .mv (.c (.bool false)), none⟩])
   (.ret))
   (.skip)))
  (.seq (.seq (.ops false [⟨some 5, .mv (.c (.int .i64 0)), none⟩])
  (.block 0 (.loop [0, 1, 5] (some 0) (.seq (.seq (.ops false [⟨some 11, .mv (.t 5), none⟩, ⟨some 12, .mv (.t 0), none⟩, ⟨some 13, .len (.t 12), none⟩, ⟨some 14, .bin .lss (.t 11) (.t 13), none⟩])
    (.cond (.t 14) (.skip)
     (.exit 0)))
    (.seq (.block 1 (.seq (.ops true [⟨some 17, .mv (.t 0), none⟩, ⟨some 18, .mv (.t 5), none⟩, ⟨some 19, .iaddr 1 (.t 17) (.t 18), none⟩, ⟨some 20, .load none (.t 19), none⟩, ⟨some 21, .mv (.t 1), none⟩, ⟨some 22, .mv (.t 5), none⟩, ⟨some 23, .iaddr 1 (.t 21) (.t 22), none⟩, ⟨some 24, .load none (.t 23), none⟩, ⟨some 25, .bin .neq (.t 20) (.t 24), none⟩])
     (.cond (.t 25) (.seq (.ops false [⟨some 4, .mv (.c (.bool false)), none⟩])
      (.ret))
      (.skip))))
    (.ops false [⟨some 15, .mv (.t 5), none⟩, ⟨some 16, .bin .add (.t 15) (.c (.int .i64 1)), none⟩, ⟨some 5, .mv (.t 16), none⟩]))))))
  (.seq (.ops false [⟨some 4, .mv (.c (.bool true)), none⟩])
  (.ret)))),
  [.t 4]⟩

/- noria/crc.Seal -/
def d_crc_Seal : DFun := ⟨
  .seq (.ops false [⟨some 2, .mv (.c (.nil)), none⟩])
  (.seq (.ops false [⟨some 3, .mv (.t 0), none⟩, ⟨some 4, .mv (.t 0), none⟩, ⟨some 5, .callP 11 [(.t 4)], none⟩, ⟨some 6, .callP 20 [(.t 5)], none⟩, ⟨some 7, .bslice true [.nil] [(some (.t 3)), (some (.t 6))], none⟩, ⟨some 8, .callP 23 [(.t 7)], none⟩, ⟨some 2, .mv (.t 8), none⟩])
  (.ret)),
  [.t 2]⟩

/- noria/noriaref02.Seal -/
def d_noriaref02_Seal : DFun := ⟨
  .seq (.ops false [⟨some 2, .mv (.c (.nil)), none⟩])
  (.seq (.ops false [⟨some 3, .bslice false [.int .u8 0] [], none⟩, ⟨some 4, .mv (.t 0), none⟩, ⟨some 5, .append 1 (.t 3) (.t 4), none⟩, ⟨some 6, .mv (.t 0), none⟩, ⟨some 7, .callP 10 [(.t 6)], none⟩, ⟨some 8, .callP 22 [(.t 7)], none⟩, ⟨some 9, .append 1 (.t 5) (.t 8), none⟩, ⟨some 2, .mv (.t 9), none⟩])
  (.ret)),
  [.t 2]⟩

/- (*sync.Once).Do -/
def d_sync_Once_Do : DFun := ⟨
  .seq (.ops false [⟨some 4, .mv (.t 0), none⟩, ⟨some 5, .nilck (.t 4), none⟩, ⟨some 6, .faddr 0 (.t 5), none⟩, ⟨some 7, .callH 24 [(.t 6)], none⟩, ⟨some 8, .un .not (.t 7), none⟩])
  (.cond (.t 8) (.ops false [⟨some 9, .mv (.t 0), none⟩, ⟨some 10, .mv (.t 1), none⟩, ⟨some 11, .callH 25 [(.t 9), (.t 10)], none⟩])
   (.skip)),
  []⟩

/- (*noria/crc.Sum).fill -/
def d_crc_Sum_fill : DFun := ⟨
  .seq (.ops false [⟨some 5, .mv (.c (.int .i64 0)), none⟩])
  (.block 0 (.loop [0, 5] none (.seq (.ops false [⟨some 6, .bin .lss (.t 5) (.c (.int .i64 256)), none⟩])
    (.seq (.cond (.t 6) (.skip)
     (.exit 0))
    (.seq (.block 1 (.seq (.ops false [⟨some 7, .mv (.t 5), none⟩, ⟨some 2, .mv (.t 7), none⟩])
     (.seq (.ops false [⟨some 8, .mv (.t 2), none⟩, ⟨some 9, .conv .u32 (.t 8), none⟩, ⟨some 3, .mv (.t 9), none⟩])
     (.seq (.seq (.ops false [⟨some 10, .mv (.c (.int .i64 0)), none⟩])
     (.block 2 (.loop [0, 2, 3, 5, 10] none (.seq (.ops false [⟨some 11, .bin .lss (.t 10) (.c (.int .i64 8)), none⟩])
       (.seq (.cond (.t 11) (.skip)
        (.exit 2))
       (.seq (.block 3 (.seq (.ops false [⟨some 12, .mv (.t 3), none⟩, ⟨some 13, .bin .and (.t 12) (.c (.int .u32 1)), none⟩, ⟨some 4, .mv (.t 13), none⟩])
        (.seq (.ops false [⟨some 14, .mv (.t 3), none⟩, ⟨some 15, .bin .shr (.t 14) (.c (.int .u64 1)), none⟩, ⟨some 3, .mv (.t 15), none⟩])
        (.seq (.ops false [⟨some 16, .mv (.t 4), none⟩, ⟨some 17, .bin .eql (.t 16) (.c (.int .u32 1)), none⟩])
        (.cond (.t 17) (.ops false [⟨some 18, .mv (.t 3), none⟩, ⟨some 19, .bin .xor (.t 18) (.c (.int .u32 3988292384)), none⟩, ⟨some 3, .mv (.t 19), none⟩])
         (.skip))))))
       (.ops false [⟨some 20, .bin .add (.t 10) (.c (.int .i64 1)), none⟩, ⟨some 10, .mv (.t 20), none⟩])))))))
     (.ops false [⟨some 21, .mv (.t 0), none⟩, ⟨some 22, .mv (.t 2), none⟩, ⟨some 23, .mv (.t 3), none⟩, ⟨some 24, .nilck (.t 21), none⟩, ⟨some 25, .faddr 3 (.t 24), none⟩, ⟨some 26, .iaddrA 256 1 (.t 25) (.t 22), none⟩, ⟨none, .store 1 (.t 26) (.t 23), none⟩])))))
    (.ops false [⟨some 27, .bin .add (.t 5) (.c (.int .i64 1)), none⟩, ⟨some 5, .mv (.t 27), none⟩])))))),
  []⟩

/- bytes.Equal -/
def d_bytes_Equal : DFun := ⟨
  .seq (.ops false [⟨some 4, .mv (.c (.bool false)), none⟩])
  (.seq (.ops false [⟨some 5, .mv (.t 0), none⟩, ⟨some 6, .b2s (.t 5), none⟩, ⟨some 7, .mv (.t 1), none⟩, ⟨some 8, .b2s (.t 7), none⟩, ⟨some 9, .bin .eql (.t 6) (.t 8), none⟩, ⟨some 4, .mv (.t 9), none⟩])
  (.ret)),
  [.t 4]⟩

/- noria/crc.tail -/
def d_crc_tail : DFun := ⟨
  .seq (.ops false [⟨some 2, .mv (.c (.nil)), none⟩])
  (.seq (.ops false [⟨some 4, .make [.int .u8 0] (.c (.int .i64 0)) (.c (.int .i64 4)), none⟩, ⟨some 3, .mv (.t 4), none⟩])
  (.seq (.seq (.ops false [⟨some 5, .mv (.c (.int .i64 0)), none⟩])
  (.block 0 (.loop [0, 3, 5] (some 1) (.seq (.ops false [⟨some 6, .bin .lss (.t 5) (.c (.int .i64 4)), none⟩])
    (.seq (.cond (.t 6) (.skip)
     (.exit 0))
    (.seq (.block 1 (.seq (.ops false [⟨some 7, .mv (.t 3), none⟩, ⟨some 8, .mv (.t 0), none⟩, ⟨some 9, .conv .u8 (.t 8), none⟩, ⟨some 10, .bslice true [.int .u8 0] [(some (.t 9))], none⟩, ⟨some 11, .append 1 (.t 7) (.t 10), none⟩, ⟨some 3, .mv (.t 11), none⟩])
     (.ops false [⟨some 12, .mv (.t 0), none⟩, ⟨some 13, .bin .shr (.t 12) (.c (.int .u64 8)), none⟩, ⟨some 0, .mv (.t 13), none⟩])))
    (.ops false [⟨some 14, .bin .add (.t 5) (.c (.int .i64 1)), none⟩, ⟨some 5, .mv (.t 14), none⟩])))))))
  (.seq (.ops false [⟨some 15, .mv (.t 3), none⟩, ⟨some 2, .mv (.t 15), none⟩])
  (.ret)))),
  [.t 2]⟩

/- slices.Clone[[]byte,byte] -/
def d_slices_Clone_byte_byte : DFun := ⟨
  .seq (.ops false [⟨some 2, .mv (.c (.nil)), none⟩])
  (.seq (.seq (.ops false [⟨some 3, .mv (.t 0), none⟩, ⟨some 4, .snil false (.t 3), none⟩])
  (.cond (.t 4) (.seq (.ops false [⟨some 2, .mv (.c (.nil)), none⟩])
   (.ret))
   (.skip)))
  (.seq (.ops false [⟨some 5, .bslice false [.int .u8 0] [], none⟩, ⟨some 6, .mv (.t 0), none⟩, ⟨some 7, .append 1 (.t 5) (.t 6), none⟩, ⟨some 2, .mv (.t 7), none⟩])
  (.ret))),
  [.t 2]⟩

/- noria/noriaref02.tail -/
def d_noriaref02_tail : DFun := ⟨
  .seq (.ops false [⟨some 2, .mv (.c (.nil)), none⟩])
  (.seq (.ops false [⟨some 5, .bslice false [.int .u8 0] [], none⟩, ⟨some 3, .mv (.t 5), none⟩])
  (.seq (.seq (.ops false [⟨some 4, .mv (.c (.int .i64 0)), none⟩])
  (.block 0 (.loop [0, 3, 4] (some 1) (.seq (.seq (.ops false [⟨some 6, .mv (.t 4), none⟩, ⟨some 7, .bin .lss (.t 6) (.c (.int .i64 4)), none⟩])
    (.cond (.t 7) (.skip)
     (.exit 0)))
    (.seq (.block 1 (.seq (.ops false [⟨some 10, .mv (.t 3), none⟩, ⟨some 11, .mv (.t 0), none⟩, ⟨some 12, .bin .rem (.t 11) (.c (.int .u32 256)), none⟩, ⟨some 13, .conv .u8 (.t 12), none⟩, ⟨some 14, .bslice true [.int .u8 0] [(some (.t 13))], none⟩, ⟨some 15, .append 1 (.t 10) (.t 14), none⟩, ⟨some 3, .mv (.t 15), none⟩])
     (.ops false [⟨some 16, .mv (.t 0), none⟩, ⟨some 17, .bin .quo (.t 16) (.c (.int .u32 256)), none⟩, ⟨some 0, .mv (.t 17), none⟩])))
    (.ops false [⟨some 8, .mv (.t 4), none⟩, ⟨some 9, .bin .add (.t 8) (.c (.int .i64 1)), none⟩, ⟨some 4, .mv (.t 9), none⟩]))))))
  (.seq (.ops false [⟨some 18, .mv (.t 3), none⟩, ⟨some 2, .mv (.t 18), none⟩])
  (.ret)))),
  [.t 2]⟩

/- slices.Concat[[]byte,byte] -/
def d_slices_Concat_byte_byte : DFun := ⟨
  .seq (.ops false [⟨some 2, .mv (.c (.nil)), none⟩])
  (.seq (.ops false [⟨some 3, .mv (.c (.int .i64 0)), none⟩])
  (.seq (.seq (.ops false [⟨some 9, .mv (.t 0), none⟩, ⟨some 10, .len (.t 9), none⟩, ⟨some 11, .mv (.c (.int .i64 0)), none⟩])
  (.block 0 (.loop [0, 3, 9, 10, 11] (some 0) (.seq (.ops false [⟨some 12, .bin .lss (.t 11) (.t 10), none⟩])
    (.seq (.cond (.t 12) (.skip)
     (.exit 0))
    (.seq (.block 1 (.seq (.ops false [⟨some 13, .iaddr 1 (.t 9) (.t 11), none⟩, ⟨some 14, .load none (.t 13), none⟩, ⟨some 5, .mv (.t 14), none⟩])
     (.seq (.ops false [⟨some 15, .mv (.t 3), none⟩, ⟨some 16, .mv (.t 5), none⟩, ⟨some 17, .len (.t 16), none⟩, ⟨some 18, .bin .add (.t 15) (.t 17), none⟩, ⟨some 3, .mv (.t 18), none⟩])
     (.seq (.ops false [⟨some 19, .mv (.t 3), none⟩, ⟨some 20, .bin .lss (.t 19) (.c (.int .i64 0)), none⟩])
     (.cond (.t 20) (.ops false [⟨some 21, .bad, none⟩, ⟨none, .bad, none⟩])
      (.skip))))))
    (.ops false [⟨some 22, .bin .add (.t 11) (.c (.int .i64 1)), none⟩, ⟨some 11, .mv (.t 22), none⟩])))))))
  (.seq (.ops false [⟨some 23, .mv (.t 3), none⟩, ⟨some 24, .callH 26 [(.c (.nil)), (.t 23)], none⟩, ⟨some 6, .mv (.t 24), none⟩])
  (.seq (.seq (.ops false [⟨some 25, .mv (.t 0), none⟩, ⟨some 26, .len (.t 25), none⟩, ⟨some 27, .mv (.c (.int .i64 0)), none⟩])
  (.block 2 (.loop [6, 25, 26, 27] none (.seq (.ops false [⟨some 28, .bin .lss (.t 27) (.t 26), none⟩])
    (.seq (.cond (.t 28) (.skip)
     (.exit 2))
    (.seq (.block 3 (.seq (.ops false [⟨some 29, .iaddr 1 (.t 25) (.t 27), none⟩, ⟨some 30, .load none (.t 29), none⟩, ⟨some 8, .mv (.t 30), none⟩])
     (.ops false [⟨some 31, .mv (.t 6), none⟩, ⟨some 32, .mv (.t 8), none⟩, ⟨some 33, .append 1 (.t 31) (.t 32), none⟩, ⟨some 6, .mv (.t 33), none⟩])))
    (.ops false [⟨some 34, .bin .add (.t 27) (.c (.int .i64 1)), none⟩, ⟨some 27, .mv (.t 34), none⟩])))))))
  (.seq (.ops false [⟨some 35, .mv (.t 6), none⟩, ⟨some 2, .mv (.t 35), none⟩])
  (.ret)))))),
  [.t 2]⟩

/- (*sync/atomic.Bool).Load -/
def d_sync_atomic_Bool_Load : DFun := ⟨
  .seq (.ops false [⟨some 2, .mv (.c (.bool false)), none⟩])
  (.seq (.ops false [⟨some 3, .mv (.t 0), none⟩, ⟨some 4, .nilck (.t 3), none⟩, ⟨some 5, .faddr 0 (.t 4), none⟩, ⟨some 6, .xload .u32 27 (.t 5), none⟩, ⟨some 7, .bin .neq (.t 6) (.c (.int .u32 0)), none⟩, ⟨some 2, .mv (.t 7), none⟩])
  (.ret)),
  [.t 2]⟩

/- (*sync.Once).doSlow -/
def d_sync_Once_doSlow : DFun := ⟨
  .seq (.ops false [⟨some 4, .mv (.t 0), none⟩, ⟨some 5, .nilck (.t 4), none⟩, ⟨some 6, .faddr 1 (.t 5), none⟩, ⟨some 7, .callH 28 [(.t 6)], none⟩])
  (.seq (.ops false [⟨some 8, .mv (.t 0), none⟩, ⟨some 9, .nilck (.t 8), none⟩, ⟨some 10, .faddr 1 (.t 9), none⟩, ⟨none, .bad, none⟩])
  (.seq (.ops false [⟨some 11, .mv (.t 0), none⟩, ⟨some 12, .nilck (.t 11), none⟩, ⟨some 13, .faddr 0 (.t 12), none⟩, ⟨some 14, .callH 24 [(.t 13)], none⟩, ⟨some 15, .un .not (.t 14), none⟩])
  (.cond (.t 15) (.seq (.ops false [⟨some 16, .mv (.t 0), none⟩, ⟨some 17, .nilck (.t 16), none⟩, ⟨some 18, .faddr 0 (.t 17), none⟩, ⟨none, .bad, none⟩])
   (.ops false [⟨some 19, .mv (.t 1), none⟩, ⟨some 20, .callvP (.t 19) [], none⟩]))
   (.skip)))),
  []⟩

/- slices.Grow[[]byte,byte] -/
def d_slices_Grow_byte_byte : DFun := ⟨
  .seq (.ops false [⟨some 4, .mv (.c (.nil)), none⟩])
  (.seq (.seq (.ops false [⟨some 5, .mv (.t 1), none⟩, ⟨some 6, .bin .lss (.t 5) (.c (.int .i64 0)), none⟩])
  (.cond (.t 6) (.ops false [⟨some 7, .bad, none⟩, ⟨none, .bad, none⟩])
   (.skip)))
  (.seq (.seq (.ops false [⟨some 8, .mv (.t 1), none⟩, ⟨some 9, .mv (.t 0), none⟩, ⟨some 10, .capn (.t 9), none⟩, ⟨some 11, .mv (.t 0), none⟩, ⟨some 12, .len (.t 11), none⟩, ⟨some 13, .bin .sub (.t 10) (.t 12), none⟩, ⟨some 14, .bin .sub (.t 8) (.t 13), none⟩, ⟨some 1, .mv (.t 14), none⟩])
  (.seq (.ops false [⟨some 15, .mv (.t 1), none⟩, ⟨some 16, .bin .gtr (.t 15) (.c (.int .i64 0)), none⟩])
  (.cond (.t 16) (.ops false [⟨some 17, .mv (.t 0), none⟩, ⟨some 18, .mv (.t 0), none⟩, ⟨some 19, .capn (.t 18), none⟩, ⟨some 20, .slice 1 (.t 17) none (some (.t 19)) none, none⟩, ⟨some 21, .mv (.t 1), none⟩, ⟨some 22, .appz 1 [.int .u8 0] (.t 20) (.t 21), none⟩, ⟨some 23, .mv (.t 0), none⟩, ⟨some 24, .len (.t 23), none⟩, ⟨some 25, .slice 1 (.t 22) none (some (.t 24)) none, none⟩, ⟨some 0, .home 1 (.t 25), none⟩])
   (.skip))))
  (.seq (.ops false [⟨some 26, .home 1 (.t 0), none⟩, ⟨some 4, .mv (.t 26), none⟩])
  (.ret)))),
  [.t 4]⟩

/- (*sync.Mutex).Lock -/
def d_sync_Mutex_Lock : DFun := ⟨
  .ops false [⟨some 2, .mv (.t 0), none⟩, ⟨some 3, .nilck (.t 2), none⟩, ⟨some 4, .faddr 0 (.t 3), none⟩, ⟨some 5, .callH 31 [(.t 4)], none⟩],
  []⟩

/- (*sync.Mutex).Unlock -/
def d_sync_Mutex_Unlock : DFun := ⟨
  .ops false [⟨some 2, .mv (.t 0), none⟩, ⟨some 3, .nilck (.t 2), none⟩, ⟨some 4, .faddr 0 (.t 3), none⟩, ⟨some 5, .callH 32 [(.t 4)], none⟩],
  []⟩

/- (*sync/atomic.Bool).Store -/
def d_sync_atomic_Bool_Store : DFun := ⟨
  .ops true [⟨some 4, .mv (.t 0), none⟩, ⟨some 5, .nilck (.t 4), none⟩, ⟨some 6, .faddr 0 (.t 5), none⟩, ⟨some 7, .mv (.t 1), none⟩, ⟨some 8, .rd (.callP 34 [(.t 7)]), none⟩, ⟨some 9, .xstore .u32 33 (.t 6) (.t 8), none⟩],
  []⟩

/- (*internal/sync.Mutex).Lock -/
def d_internal_sync_Mutex_Lock : DFun := ⟨
  .seq (.ops false [⟨some 2, .callP 35 [], none⟩])
  (.seq (.seq (.ops false [⟨some 3, .mv (.t 0), none⟩, ⟨some 4, .nilck (.t 3), none⟩, ⟨some 5, .faddr 0 (.t 4), none⟩, ⟨some 6, .xcas .i32 36 (.t 5) (.c (.int .i32 0)) (.c (.int .i32 1)), none⟩])
  (.cond (.t 6) (.seq (.cond (.c (.bool true)) (.seq (.ops false [⟨some 7, .callP 37 [], none⟩])
    (.ops false [⟨some 8, .mv (.t 0), none⟩, ⟨some 9, .bad, none⟩, ⟨some 10, .callP 38 [(.t 9)], none⟩]))
    (.skip))
   (.ret))
   (.skip)))
  (.ops false [⟨some 11, .mv (.t 0), none⟩, ⟨some 12, .callH 39 [(.t 11)], none⟩])),
  []⟩

/- (*internal/sync.Mutex).Unlock -/
def d_internal_sync_Mutex_Unlock : DFun := ⟨
  .seq (.cond (.c (.bool true)) (.seq (.ops false [⟨some 3, .mv (.t 0), none⟩, ⟨some 4, .nilck (.t 3), none⟩, ⟨some 5, .faddr 0 (.t 4), none⟩, ⟨some 6, .load none (.t 5), none⟩])
   (.seq (.ops false [⟨some 7, .mv (.t 0), none⟩, ⟨some 8, .bad, none⟩, ⟨some 9, .callP 40 [(.t 8)], none⟩])
   (.ops false [⟨some 10, .callP 35 [], none⟩])))
   (.skip))
  (.seq (.ops false [⟨some 11, .mv (.t 0), none⟩, ⟨some 12, .nilck (.t 11), none⟩, ⟨some 13, .faddr 0 (.t 12), none⟩, ⟨some 14, .xadd .i32 41 (.t 13) (.c (.int .i32 (-1))), none⟩, ⟨some 2, .mv (.t 14), none⟩])
  (.seq (.seq (.ops false [⟨some 15, .mv (.t 2), none⟩, ⟨some 16, .bin .neq (.t 15) (.c (.int .i32 0)), none⟩])
  (.cond (.t 16) (.ops false [⟨some 17, .mv (.t 0), none⟩, ⟨some 18, .mv (.t 2), none⟩, ⟨some 19, .callH 42 [(.t 17), (.t 18)], none⟩])
   (.skip)))
  (.ops false [⟨some 20, .callP 37 [], none⟩]))),
  []⟩

/- sync/atomic.b32 -/
def d_sync_atomic_b32 : DFun := ⟨
  .seq (.ops false [⟨some 2, .mv (.c (.int .u32 0)), none⟩])
  (.seq (.seq (.ops false [⟨some 3, .mv (.t 0), none⟩])
  (.cond (.t 3) (.seq (.ops false [⟨some 2, .mv (.c (.int .u32 1)), none⟩])
   (.ret))
   (.skip)))
  (.seq (.ops false [⟨some 2, .mv (.c (.int .u32 0)), none⟩])
  (.ret))),
  [.t 2]⟩

/- (*internal/sync.Mutex).lockSlow -/
def d_internal_sync_Mutex_lockSlow : DFun := ⟨
  .seq (.ops false [⟨some 2, .mv (.c (.int .i64 0)), none⟩])
  (.seq (.ops false [⟨some 3, .mv (.c (.bool false)), none⟩])
  (.seq (.ops false [⟨some 4, .mv (.c (.bool false)), none⟩])
  (.seq (.ops false [⟨some 5, .mv (.c (.int .i64 0)), none⟩])
  (.seq (.ops false [⟨some 10, .mv (.t 0), none⟩, ⟨some 11, .nilck (.t 10), none⟩, ⟨some 12, .faddr 0 (.t 11), none⟩, ⟨some 13, .load none (.t 12), none⟩, ⟨some 6, .mv (.t 13), none⟩])
  (.seq (.block 0 (.loop [0, 2, 3, 4, 5, 6] none (.block 1 (.seq (.seq (.ops false [⟨some 14, .mv (.t 6), none⟩, ⟨some 15, .bin .and (.t 14) (.c (.int .i32 5)), none⟩, ⟨some 16, .bin .eql (.t 15) (.c (.int .i32 1)), none⟩, ⟨some 17, .mv (.t 16), none⟩, ⟨some 18, .mv (.t 5), some (17, true)⟩, ⟨some 19, .callP 43 [(.t 18)], some (17, true)⟩, ⟨some 20, .pick (.t 17) (.t 19) (.c (.bool false)), none⟩])
     (.cond (.t 20) (.seq (.seq (.ops false [⟨some 21, .mv (.t 4), none⟩, ⟨some 22, .un .not (.t 21), none⟩, ⟨some 23, .mv (.t 22), none⟩, ⟨some 24, .mv (.t 6), some (23, true)⟩, ⟨some 25, .bin .and (.t 24) (.c (.int .i32 2)), some (23, true)⟩, ⟨some 26, .bin .eql (.t 25) (.c (.int .i32 0)), some (23, true)⟩, ⟨some 27, .pick (.t 23) (.t 26) (.c (.bool false)), none⟩, ⟨some 28, .mv (.t 27), none⟩, ⟨some 29, .mv (.t 6), some (28, true)⟩, ⟨some 30, .bin .shr (.t 29) (.c (.int .u64 3)), some (28, true)⟩, ⟨some 31, .bin .neq (.t 30) (.c (.int .i32 0)), some (28, true)⟩, ⟨some 32, .pick (.t 28) (.t 31) (.c (.bool false)), none⟩, ⟨some 33, .mv (.t 32), none⟩, ⟨some 34, .mv (.t 0), some (33, true)⟩, ⟨some 35, .nilck (.t 34), some (33, true)⟩, ⟨some 36, .faddr 0 (.t 35), some (33, true)⟩, ⟨some 37, .mv (.t 6), some (33, true)⟩, ⟨some 38, .mv (.t 6), some (33, true)⟩, ⟨some 39, .bin .or (.t 38) (.c (.int .i32 2)), some (33, true)⟩, ⟨some 40, .xcas .i32 36 (.t 36) (.t 37) (.t 39), some (33, true)⟩, ⟨some 41, .pick (.t 33) (.t 40) (.c (.bool false)), none⟩])
      (.cond (.t 41) (.ops false [⟨some 4, .mv (.c (.bool true)), none⟩])
       (.skip)))
      (.seq (.ops false [⟨some 42, .callP 44 [], none⟩])
      (.seq (.ops false [⟨some 43, .mv (.t 5), none⟩, ⟨some 44, .bin .add (.t 43) (.c (.int .i64 1)), none⟩, ⟨some 5, .mv (.t 44), none⟩])
      (.seq (.ops false [⟨some 45, .mv (.t 0), none⟩, ⟨some 46, .nilck (.t 45), none⟩, ⟨some 47, .faddr 0 (.t 46), none⟩, ⟨some 48, .load none (.t 47), none⟩, ⟨some 6, .mv (.t 48), none⟩])
      (.exit 1)))))
      (.skip)))
     (.seq (.ops false [⟨some 49, .mv (.t 6), none⟩, ⟨some 7, .mv (.t 49), none⟩])
     (.seq (.seq (.ops false [⟨some 50, .mv (.t 6), none⟩, ⟨some 51, .bin .and (.t 50) (.c (.int .i32 4)), none⟩, ⟨some 52, .bin .eql (.t 51) (.c (.int .i32 0)), none⟩])
     (.cond (.t 52) (.ops false [⟨some 53, .mv (.t 7), none⟩, ⟨some 54, .bin .or (.t 53) (.c (.int .i32 1)), none⟩, ⟨some 7, .mv (.t 54), none⟩])
      (.skip)))
     (.seq (.seq (.ops false [⟨some 55, .mv (.t 6), none⟩, ⟨some 56, .bin .and (.t 55) (.c (.int .i32 5)), none⟩, ⟨some 57, .bin .neq (.t 56) (.c (.int .i32 0)), none⟩])
     (.cond (.t 57) (.ops false [⟨some 58, .mv (.t 7), none⟩, ⟨some 59, .bin .add (.t 58) (.c (.int .i32 8)), none⟩, ⟨some 7, .mv (.t 59), none⟩])
      (.skip)))
     (.seq (.seq (.ops false [⟨some 60, .mv (.t 3), none⟩, ⟨some 61, .mv (.t 60), none⟩, ⟨some 62, .mv (.t 6), some (61, true)⟩, ⟨some 63, .bin .and (.t 62) (.c (.int .i32 1)), some (61, true)⟩, ⟨some 64, .bin .neq (.t 63) (.c (.int .i32 0)), some (61, true)⟩, ⟨some 65, .pick (.t 61) (.t 64) (.c (.bool false)), none⟩])
     (.cond (.t 65) (.ops false [⟨some 66, .mv (.t 7), none⟩, ⟨some 67, .bin .or (.t 66) (.c (.int .i32 4)), none⟩, ⟨some 7, .mv (.t 67), none⟩])
      (.skip)))
     (.seq (.seq (.ops false [⟨some 68, .mv (.t 4), none⟩])
     (.cond (.t 68) (.seq (.seq (.ops false [⟨some 69, .mv (.t 7), none⟩, ⟨some 70, .bin .and (.t 69) (.c (.int .i32 2)), none⟩, ⟨some 71, .bin .eql (.t 70) (.c (.int .i32 0)), none⟩])
      (.cond (.t 71) (.ops false [⟨some 72, .callP 45 [(.c (.str [115, 121, 110, 99, 58, 32, 105, 110, 99, 111, 110, 115, 105, 115, 116, 101, 110, 116, 32, 109, 117, 116, 101, 120, 32, 115, 116, 97, 116, 101]))], none⟩])
       (.skip)))
      (.ops false [⟨some 73, .mv (.t 7), none⟩, ⟨some 74, .bin .andNot (.t 73) (.c (.int .i32 2)), none⟩, ⟨some 7, .mv (.t 74), none⟩]))
      (.skip)))
     (.seq (.ops false [⟨some 75, .mv (.t 0), none⟩, ⟨some 76, .nilck (.t 75), none⟩, ⟨some 77, .faddr 0 (.t 76), none⟩, ⟨some 78, .mv (.t 6), none⟩, ⟨some 79, .mv (.t 7), none⟩, ⟨some 80, .xcas .i32 36 (.t 77) (.t 78) (.t 79), none⟩])
     (.cond (.t 80) (.seq (.seq (.ops false [⟨some 81, .mv (.t 6), none⟩, ⟨some 82, .bin .and (.t 81) (.c (.int .i32 5)), none⟩, ⟨some 83, .bin .eql (.t 82) (.c (.int .i32 0)), none⟩])
      (.cond (.t 83) (.exit 0)
       (.skip)))
      (.seq (.ops false [⟨some 84, .mv (.t 2), none⟩, ⟨some 85, .bin .neq (.t 84) (.c (.int .i64 0)), none⟩, ⟨some 8, .mv (.t 85), none⟩])
      (.seq (.seq (.ops false [⟨some 86, .mv (.t 2), none⟩, ⟨some 87, .bin .eql (.t 86) (.c (.int .i64 0)), none⟩])
      (.cond (.t 87) (.ops false [⟨some 88, .callP 46 [], none⟩, ⟨some 2, .mv (.t 88), none⟩])
       (.skip)))
      (.seq (.ops false [⟨some 89, .mv (.t 0), none⟩, ⟨some 90, .nilck (.t 89), none⟩, ⟨some 91, .faddr 1 (.t 90), none⟩, ⟨some 92, .mv (.t 8), none⟩, ⟨some 93, .callH 47 [(.t 91), (.t 92), (.c (.int .i64 2))], none⟩])
      (.seq (.ops false [⟨some 94, .mv (.t 3), none⟩, ⟨some 95, .mv (.t 94), none⟩, ⟨some 96, .callP 46 [], some (95, false)⟩, ⟨some 97, .mv (.t 2), some (95, false)⟩, ⟨some 98, .bin .sub (.t 96) (.t 97), some (95, false)⟩, ⟨some 99, .bin .gtr (.t 98) (.c (.int .i64 1000000)), some (95, false)⟩, ⟨some 100, .pick (.t 95) (.c (.bool true)) (.t 99), none⟩, ⟨some 3, .mv (.t 100), none⟩])
      (.seq (.ops false [⟨some 101, .mv (.t 0), none⟩, ⟨some 102, .nilck (.t 101), none⟩, ⟨some 103, .faddr 0 (.t 102), none⟩, ⟨some 104, .load none (.t 103), none⟩, ⟨some 6, .mv (.t 104), none⟩])
      (.seq (.seq (.ops false [⟨some 105, .mv (.t 6), none⟩, ⟨some 106, .bin .and (.t 105) (.c (.int .i32 4)), none⟩, ⟨some 107, .bin .neq (.t 106) (.c (.int .i32 0)), none⟩])
      (.cond (.t 107) (.seq (.seq (.ops false [⟨some 108, .mv (.t 6), none⟩, ⟨some 109, .bin .and (.t 108) (.c (.int .i32 3)), none⟩, ⟨some 110, .bin .neq (.t 109) (.c (.int .i32 0)), none⟩, ⟨some 111, .mv (.t 110), none⟩, ⟨some 112, .mv (.t 6), some (111, false)⟩, ⟨some 113, .bin .shr (.t 112) (.c (.int .u64 3)), some (111, false)⟩, ⟨some 114, .bin .eql (.t 113) (.c (.int .i32 0)), some (111, false)⟩, ⟨some 115, .pick (.t 111) (.c (.bool true)) (.t 114), none⟩])
       (.cond (.t 115) (.ops false [⟨some 116, .callP 45 [(.c (.str [115, 121, 110, 99, 58, 32, 105, 110, 99, 111, 110, 115, 105, 115, 116, 101, 110, 116, 32, 109, 117, 116, 101, 120, 32, 115, 116, 97, 116, 101]))], none⟩])
        (.skip)))
       (.seq (.ops false [⟨some 9, .mv (.c (.int .i32 (-7))), none⟩])
       (.seq (.seq (.ops false [⟨some 117, .mv (.t 3), none⟩, ⟨some 118, .un .not (.t 117), none⟩, ⟨some 119, .mv (.t 118), none⟩, ⟨some 120, .mv (.t 6), some (119, false)⟩, ⟨some 121, .bin .shr (.t 120) (.c (.int .u64 3)), some (119, false)⟩, ⟨some 122, .bin .eql (.t 121) (.c (.int .i32 1)), some (119, false)⟩, ⟨some 123, .pick (.t 119) (.c (.bool true)) (.t 122), none⟩])
       (.cond (.t 123) (.ops false [⟨some 124, .mv (.t 9), none⟩, ⟨some 125, .bin .sub (.t 124) (.c (.int .i32 4)), none⟩, ⟨some 9, .mv (.t 125), none⟩])
        (.skip)))
       (.seq (.ops false [⟨some 126, .mv (.t 0), none⟩, ⟨some 127, .nilck (.t 126), none⟩, ⟨some 128, .faddr 0 (.t 127), none⟩, ⟨some 129, .mv (.t 9), none⟩, ⟨some 130, .xadd .i32 41 (.t 128) (.t 129), none⟩])
       (.exit 0)))))
       (.skip)))
      (.seq (.ops false [⟨some 4, .mv (.c (.bool true)), none⟩])
      (.ops false [⟨some 5, .mv (.c (.int .i64 0)), none⟩])))))))))
      (.ops false [⟨some 131, .mv (.t 0), none⟩, ⟨some 132, .nilck (.t 131), none⟩, ⟨some 133, .faddr 0 (.t 132), none⟩, ⟨some 134, .load none (.t 133), none⟩, ⟨some 6, .mv (.t 134), none⟩]))))))))))))
  (.cond (.c (.bool true)) (.seq (.ops false [⟨some 135, .callP 37 [], none⟩])
   (.ops false [⟨some 136, .mv (.t 0), none⟩, ⟨some 137, .bad, none⟩, ⟨some 138, .callP 38 [(.t 137)], none⟩]))
   (.skip))))))),
  []⟩

/- (*internal/sync.Mutex).unlockSlow -/
def d_internal_sync_Mutex_unlockSlow : DFun := ⟨
  .seq (.seq (.ops false [⟨some 5, .mv (.t 1), none⟩, ⟨some 6, .bin .add (.t 5) (.c (.int .i32 1)), none⟩, ⟨some 7, .bin .and (.t 6) (.c (.int .i32 1)), none⟩, ⟨some 8, .bin .eql (.t 7) (.c (.int .i32 0)), none⟩])
  (.cond (.t 8) (.ops false [⟨some 9, .callP 48 [(.c (.str [115, 121, 110, 99, 58, 32, 117, 110, 108, 111, 99, 107, 32, 111, 102, 32, 117, 110, 108, 111, 99, 107, 101, 100, 32, 109, 117, 116, 101, 120]))], none⟩])
   (.skip)))
  (.seq (.ops false [⟨some 10, .mv (.t 1), none⟩, ⟨some 11, .bin .and (.t 10) (.c (.int .i32 4)), none⟩, ⟨some 12, .bin .eql (.t 11) (.c (.int .i32 0)), none⟩])
  (.cond (.t 12) (.seq (.ops false [⟨some 13, .mv (.t 1), none⟩, ⟨some 4, .mv (.t 13), none⟩])
   (.block 0 (.loop [0, 4] none (.block 1 (.seq (.seq (.ops false [⟨some 14, .mv (.t 4), none⟩, ⟨some 15, .bin .shr (.t 14) (.c (.int .u64 3)), none⟩, ⟨some 16, .bin .eql (.t 15) (.c (.int .i32 0)), none⟩, ⟨some 17, .mv (.t 16), none⟩, ⟨some 18, .mv (.t 4), some (17, false)⟩, ⟨some 19, .bin .and (.t 18) (.c (.int .i32 7)), some (17, false)⟩, ⟨some 20, .bin .neq (.t 19) (.c (.int .i32 0)), some (17, false)⟩, ⟨some 21, .pick (.t 17) (.c (.bool true)) (.t 20), none⟩])
      (.cond (.t 21) (.ret)
       (.skip)))
      (.seq (.ops false [⟨some 22, .mv (.t 4), none⟩, ⟨some 23, .bin .sub (.t 22) (.c (.int .i32 8)), none⟩, ⟨some 24, .bin .or (.t 23) (.c (.int .i32 2)), none⟩, ⟨some 1, .mv (.t 24), none⟩])
      (.seq (.seq (.ops false [⟨some 25, .mv (.t 0), none⟩, ⟨some 26, .nilck (.t 25), none⟩, ⟨some 27, .faddr 0 (.t 26), none⟩, ⟨some 28, .mv (.t 4), none⟩, ⟨some 29, .mv (.t 1), none⟩, ⟨some 30, .xcas .i32 36 (.t 27) (.t 28) (.t 29), none⟩])
      (.cond (.t 30) (.seq (.ops false [⟨some 31, .mv (.t 0), none⟩, ⟨some 32, .nilck (.t 31), none⟩, ⟨some 33, .faddr 1 (.t 32), none⟩, ⟨some 34, .callH 49 [(.t 33), (.c (.bool false)), (.c (.int .i64 2))], none⟩])
       (.ret))
       (.skip)))
      (.ops false [⟨some 35, .mv (.t 0), none⟩, ⟨some 36, .nilck (.t 35), none⟩, ⟨some 37, .faddr 0 (.t 36), none⟩, ⟨some 38, .load none (.t 37), none⟩, ⟨some 4, .mv (.t 38), none⟩]))))))))
   (.ops false [⟨some 39, .mv (.t 0), none⟩, ⟨some 40, .nilck (.t 39), none⟩, ⟨some 41, .faddr 1 (.t 40), none⟩, ⟨some 42, .callH 49 [(.t 41), (.c (.bool true)), (.c (.int .i64 2))], none⟩]))),
  []⟩

end Go.Proofs.Ytmdgjgnmbdmdgaa
