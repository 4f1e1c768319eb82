/- The octet laws: the data-level reading of the functions, by program. -/
import Derived.Test.YtfcnfjaehpeclaaChecked
import Derived.Test.YtfcnfjaehpeclaaNkW
set_option linter.unusedSimpArgs false
set_option linter.unusedVariables false
namespace Go.Proofs.Ytfcnfjaehpeclaa
open Go.Nk

/- noria/norialaw01.OctetInts -/
def d3 : DFun := ⟨
  .seq (.ops false [⟨some 4, .mv (.c (.bool false)), none⟩])
  (.seq (.ops false [⟨some 10, .mv (.t 1), none⟩, ⟨some 11, .callP 6 [(.t 10)], none⟩, ⟨some 9, .mv (.t 11), none⟩, ⟨some 12, .extract 0 (.t 9), none⟩, ⟨some 13, .extract 1 (.t 9), none⟩, ⟨some 5, .mv (.t 12), none⟩, ⟨some 6, .mv (.t 13), none⟩])
  (.seq (.ops false [⟨some 15, .mv (.t 1), none⟩, ⟨some 16, .callP 7 [(.t 15)], none⟩, ⟨some 14, .mv (.t 16), none⟩, ⟨some 17, .extract 0 (.t 14), none⟩, ⟨some 18, .extract 1 (.t 14), none⟩, ⟨some 7, .mv (.t 17), none⟩, ⟨some 8, .mv (.t 18), none⟩])
  (.seq (.ops false [⟨some 19, .mv (.t 0), none⟩, ⟨some 20, .callP 9 [(.t 19)], none⟩, ⟨some 21, .mv (.t 0), none⟩, ⟨some 22, .callP 10 [(.t 21)], none⟩, ⟨some 23, .callP 8 [(.t 20), (.t 22)], none⟩, ⟨some 24, .mv (.t 23), none⟩, ⟨some 25, .mv (.t 5), some (24, true)⟩, ⟨some 26, .mv (.t 7), some (24, true)⟩, ⟨some 27, .bin .eql (.t 25) (.t 26), some (24, true)⟩, ⟨some 28, .pick (.t 24) (.t 27) (.c (.bool false)), none⟩, ⟨some 29, .mv (.t 28), none⟩, ⟨some 30, .mv (.t 6), some (29, true)⟩, ⟨some 31, .mv (.t 8), some (29, true)⟩, ⟨some 32, .beq false (.t 30) (.t 31), some (29, true)⟩, ⟨some 33, .pick (.t 29) (.t 32) (.c (.bool false)), none⟩, ⟨some 34, .mv (.t 33), none⟩, ⟨some 35, .callP 11 [], some (34, true)⟩, ⟨some 36, .pick (.t 34) (.t 35) (.c (.bool false)), none⟩, ⟨some 4, .mv (.t 36), none⟩])
  (.ret)))),
  [.t 4]⟩

/- noria/norialaw01.OctetBack -/
def d4 : DFun := ⟨
  .seq (.ops false [⟨some 4, .mv (.c (.bool false)), none⟩])
  (.seq (.ops false [⟨some 10, .mv (.t 0), none⟩, ⟨some 11, .callP 9 [(.t 10)], none⟩, ⟨some 12, .callP 6 [(.t 11)], none⟩, ⟨some 9, .mv (.t 12), none⟩, ⟨some 13, .extract 0 (.t 9), none⟩, ⟨some 14, .extract 1 (.t 9), none⟩, ⟨some 5, .mv (.t 13), none⟩, ⟨some 6, .mv (.t 14), none⟩])
  (.seq (.seq (.ops false [⟨some 15, .mv (.t 5), none⟩, ⟨some 16, .mv (.t 0), none⟩, ⟨some 17, .bin .neq (.t 15) (.t 16), none⟩, ⟨some 18, .mv (.t 17), none⟩, ⟨some 19, .mv (.t 6), some (18, false)⟩, ⟨some 20, .un .not (.t 19), some (18, false)⟩, ⟨some 21, .pick (.t 18) (.c (.bool true)) (.t 20), none⟩, ⟨some 22, .mv (.t 21), none⟩, ⟨some 23, .mv (.t 0), some (22, false)⟩, ⟨some 24, .conv .u64 (.t 23), some (22, false)⟩, ⟨some 25, .callP 13 [(.t 24), (.c (.int .i64 8))], some (22, false)⟩, ⟨some 26, .callP 12 [(.t 25)], some (22, false)⟩, ⟨some 27, .mv (.t 0), some (22, false)⟩, ⟨some 28, .conv .u64 (.t 27), some (22, false)⟩, ⟨some 29, .bin .neq (.t 26) (.t 28), some (22, false)⟩, ⟨some 30, .pick (.t 22) (.c (.bool true)) (.t 29), none⟩])
  (.cond (.t 30) (.seq (.ops false [⟨some 4, .mv (.c (.bool false)), none⟩])
   (.ret))
   (.skip)))
  (.seq (.ops false [⟨some 32, .mv (.t 1), none⟩, ⟨some 33, .callP 6 [(.t 32)], none⟩, ⟨some 31, .mv (.t 33), none⟩, ⟨some 34, .extract 0 (.t 31), none⟩, ⟨some 35, .extract 1 (.t 31), none⟩, ⟨some 7, .mv (.t 34), none⟩, ⟨some 8, .mv (.t 35), none⟩])
  (.seq (.ops false [⟨some 36, .mv (.t 8), none⟩, ⟨some 37, .un .not (.t 36), none⟩, ⟨some 38, .mv (.t 37), none⟩, ⟨some 39, .mv (.t 7), some (38, false)⟩, ⟨some 40, .callP 9 [(.t 39)], some (38, false)⟩, ⟨some 41, .mv (.t 1), some (38, false)⟩, ⟨some 42, .callP 8 [(.t 40), (.t 41)], some (38, false)⟩, ⟨some 43, .pick (.t 38) (.c (.bool true)) (.t 42), none⟩, ⟨some 44, .mv (.t 43), none⟩, ⟨some 45, .callP 11 [], some (44, true)⟩, ⟨some 46, .pick (.t 44) (.t 45) (.c (.bool false)), none⟩, ⟨some 4, .mv (.t 46), none⟩])
  (.ret))))),
  [.t 4]⟩

/- noria/norialaw01.OctetPuts -/
def d5 : DFun := ⟨
  .seq (.ops false [⟨some 6, .mv (.c (.bool false)), none⟩])
  (.seq (.seq (.ops false [⟨some 7, .mv (.t 2), none⟩, ⟨some 8, .len (.t 7), none⟩, ⟨some 9, .bin .gtr (.t 8) (.c (.int .i64 1000)), none⟩])
  (.cond (.t 9) (.seq (.ops false [⟨some 10, .callP 11 [], none⟩, ⟨some 6, .mv (.t 10), none⟩])
   (.ret))
   (.skip)))
  (.seq (.ops false [⟨some 11, .mv (.t 0), none⟩, ⟨some 12, .mv (.t 1), none⟩, ⟨some 13, .callP 13 [(.t 11), (.t 12)], none⟩, ⟨some 14, .mv (.t 0), none⟩, ⟨some 15, .mv (.t 1), none⟩, ⟨some 16, .callP 14 [(.t 14), (.t 15)], none⟩, ⟨some 17, .callP 8 [(.t 13), (.t 16)], none⟩, ⟨some 18, .mv (.t 17), none⟩, ⟨some 19, .mv (.t 2), some (18, true)⟩, ⟨some 20, .callP 12 [(.t 19)], some (18, true)⟩, ⟨some 21, .mv (.t 2), some (18, true)⟩, ⟨some 22, .callP 15 [(.t 21)], some (18, true)⟩, ⟨some 23, .bin .eql (.t 20) (.t 22), some (18, true)⟩, ⟨some 24, .pick (.t 18) (.t 23) (.c (.bool false)), none⟩, ⟨some 25, .mv (.t 24), none⟩, ⟨some 26, .mv (.t 2), some (25, true)⟩, ⟨some 27, .mv (.t 0), some (25, true)⟩, ⟨some 28, .mv (.t 1), some (25, true)⟩, ⟨some 29, .callP 13 [(.t 27), (.t 28)], some (25, true)⟩, ⟨some 30, .callP 16 [(.t 26), (.t 29)], some (25, true)⟩, ⟨some 31, .mv (.t 2), some (25, true)⟩, ⟨some 32, .mv (.t 0), some (25, true)⟩, ⟨some 33, .mv (.t 1), some (25, true)⟩, ⟨some 34, .callP 14 [(.t 32), (.t 33)], some (25, true)⟩, ⟨some 35, .callP 8 [(.t 31), (.t 34)], some (25, true)⟩, ⟨some 36, .beq false (.t 30) (.t 35), some (25, true)⟩, ⟨some 37, .pick (.t 25) (.t 36) (.c (.bool false)), none⟩, ⟨some 38, .mv (.t 37), none⟩, ⟨some 39, .callP 11 [], some (38, true)⟩, ⟨some 40, .pick (.t 38) (.t 39) (.c (.bool false)), none⟩, ⟨some 6, .mv (.t 40), none⟩])
  (.ret))),
  [.t 6]⟩

/- noria/octet.Back -/
def d6 : DFun := ⟨
  .seq (.ops false [⟨some 2, .mv (.c (.int .i64 0)), none⟩, ⟨some 3, .mv (.c (.bool false)), none⟩])
  (.seq (.seq (.ops false [⟨some 5, .mv (.t 0), none⟩, ⟨some 6, .len (.t 5), none⟩, ⟨some 7, .bin .lss (.t 6) (.c (.int .i64 1)), none⟩, ⟨some 8, .mv (.t 7), none⟩, ⟨some 9, .mv (.t 0), some (8, false)⟩, ⟨some 10, .len (.t 9), some (8, false)⟩, ⟨some 11, .bin .gtr (.t 10) (.c (.int .i64 8)), some (8, false)⟩, ⟨some 12, .pick (.t 8) (.c (.bool true)) (.t 11), none⟩, ⟨some 13, .mv (.t 12), none⟩, ⟨some 14, .mv (.t 0), some (13, false)⟩, ⟨some 15, .callP 17 [(.t 14)], some (13, false)⟩, ⟨some 16, .pick (.t 13) (.c (.bool true)) (.t 15), none⟩])
  (.cond (.t 16) (.seq (.ops false [⟨some 2, .mv (.c (.int .i64 0)), none⟩, ⟨some 3, .mv (.c (.bool false)), none⟩])
   (.ret))
   (.skip)))
  (.seq (.ops false [⟨some 17, .mv (.t 0), none⟩, ⟨some 18, .len (.t 17), none⟩, ⟨some 19, .bin .sub (.c (.int .i64 8)) (.t 18), none⟩, ⟨some 20, .bin .mul (.c (.int .i64 8)) (.t 19), none⟩, ⟨some 4, .mv (.t 20), none⟩])
  (.seq (.ops false [⟨some 21, .mv (.t 0), none⟩, ⟨some 22, .callP 12 [(.t 21)], none⟩, ⟨some 23, .mv (.t 4), none⟩, ⟨some 24, .bin .shl (.t 22) (.t 23), none⟩, ⟨some 25, .conv .i64 (.t 24), none⟩, ⟨some 26, .mv (.t 4), none⟩, ⟨some 27, .bin .shr (.t 25) (.t 26), none⟩, ⟨some 2, .mv (.t 27), none⟩, ⟨some 3, .mv (.c (.bool true)), none⟩])
  (.ret)))),
  [.t 2, .t 3]⟩

/- noria/noriaref01.Back -/
def d7 : DFun := ⟨
  .seq (.ops false [⟨some 2, .mv (.c (.int .i64 0)), none⟩, ⟨some 3, .mv (.c (.bool false)), none⟩])
  (.seq (.seq (.ops false [⟨some 6, .mv (.t 0), none⟩, ⟨some 7, .len (.t 6), none⟩, ⟨some 8, .bin .lss (.t 7) (.c (.int .i64 1)), none⟩, ⟨some 9, .mv (.t 8), none⟩, ⟨some 10, .mv (.t 0), some (9, false)⟩, ⟨some 11, .len (.t 10), some (9, false)⟩, ⟨some 12, .bin .gtr (.t 11) (.c (.int .i64 8)), some (9, false)⟩, ⟨some 13, .pick (.t 9) (.c (.bool true)) (.t 12), none⟩])
  (.cond (.t 13) (.seq (.ops false [⟨some 2, .mv (.c (.int .i64 0)), none⟩, ⟨some 3, .mv (.c (.bool false)), none⟩])
   (.ret))
   (.skip)))
  (.seq (.seq (.ops false [⟨some 14, .mv (.t 0), none⟩, ⟨some 15, .len (.t 14), none⟩, ⟨some 16, .bin .gtr (.t 15) (.c (.int .i64 1)), none⟩, ⟨some 17, .mv (.t 16), none⟩, ⟨some 18, .mv (.t 0), some (17, true)⟩, ⟨some 19, .iaddr 1 (.t 18) (.c (.int .i64 0)), some (17, true)⟩, ⟨some 20, .load none (.t 19), some (17, true)⟩, ⟨some 21, .bin .eql (.t 20) (.c (.int .u8 0)), some (17, true)⟩, ⟨some 22, .mv (.t 21), some (17, true)⟩, ⟨some 23, .mv (.t 0), some (22, true)⟩, ⟨some 24, .iaddr 1 (.t 23) (.c (.int .i64 1)), some (22, true)⟩, ⟨some 25, .load none (.t 24), some (22, true)⟩, ⟨some 26, .bin .lss (.t 25) (.c (.int .u8 128)), some (22, true)⟩, ⟨some 27, .pick (.t 22) (.t 26) (.c (.bool false)), some (17, true)⟩, ⟨some 28, .mv (.t 27), some (17, true)⟩, ⟨some 29, .mv (.t 0), some (28, false)⟩, ⟨some 30, .iaddr 1 (.t 29) (.c (.int .i64 0)), some (28, false)⟩, ⟨some 31, .load none (.t 30), some (28, false)⟩, ⟨some 32, .bin .eql (.t 31) (.c (.int .u8 255)), some (28, false)⟩, ⟨some 33, .mv (.t 32), some (28, false)⟩, ⟨some 34, .mv (.t 0), some (33, true)⟩, ⟨some 35, .iaddr 1 (.t 34) (.c (.int .i64 1)), some (33, true)⟩, ⟨some 36, .load none (.t 35), some (33, true)⟩, ⟨some 37, .bin .geq (.t 36) (.c (.int .u8 128)), some (33, true)⟩, ⟨some 38, .pick (.t 33) (.t 37) (.c (.bool false)), some (28, false)⟩, ⟨some 39, .pick (.t 28) (.c (.bool true)) (.t 38), some (17, true)⟩, ⟨some 40, .pick (.t 17) (.t 39) (.c (.bool false)), none⟩])
  (.cond (.t 40) (.seq (.ops false [⟨some 2, .mv (.c (.int .i64 0)), none⟩, ⟨some 3, .mv (.c (.bool false)), none⟩])
   (.ret))
   (.skip)))
  (.seq (.ops false [⟨some 4, .mv (.c (.int .u64 0)), none⟩])
  (.seq (.seq (.ops false [⟨some 41, .mv (.t 0), none⟩, ⟨some 42, .iaddr 1 (.t 41) (.c (.int .i64 0)), none⟩, ⟨some 43, .load none (.t 42), none⟩, ⟨some 44, .bin .geq (.t 43) (.c (.int .u8 128)), none⟩])
  (.cond (.t 44) (.ops false [⟨some 45, .mv (.t 4), none⟩, ⟨some 46, .bin .sub (.t 45) (.c (.int .u64 1)), none⟩, ⟨some 4, .mv (.t 46), none⟩])
   (.skip)))
  (.seq (.seq (.ops false [⟨some 5, .mv (.c (.int .i64 0)), none⟩])
  (.block 0 (.loop [0, 4, 5] (some 0) (.seq (.seq (.ops false [⟨some 47, .mv (.t 5), none⟩, ⟨some 48, .mv (.t 0), none⟩, ⟨some 49, .len (.t 48), none⟩, ⟨some 50, .bin .lss (.t 47) (.t 49), none⟩])
    (.cond (.t 50) (.skip)
     (.exit 0)))
    (.seq (.block 1 (.ops false [⟨some 53, .mv (.t 4), none⟩, ⟨some 54, .bin .mul (.t 53) (.c (.int .u64 256)), none⟩, ⟨some 55, .mv (.t 0), none⟩, ⟨some 56, .mv (.t 5), none⟩, ⟨some 57, .iaddr 1 (.t 55) (.t 56), none⟩, ⟨some 58, .load none (.t 57), none⟩, ⟨some 59, .conv .u64 (.t 58), none⟩, ⟨some 60, .bin .add (.t 54) (.t 59), none⟩, ⟨some 4, .mv (.t 60), none⟩]))
    (.ops false [⟨some 51, .mv (.t 5), none⟩, ⟨some 52, .bin .add (.t 51) (.c (.int .i64 1)), none⟩, ⟨some 5, .mv (.t 52), none⟩]))))))
  (.seq (.ops false [⟨some 61, .mv (.t 4), none⟩, ⟨some 62, .conv .i64 (.t 61), none⟩, ⟨some 2, .mv (.t 62), none⟩, ⟨some 3, .mv (.c (.bool true)), none⟩])
  (.ret))))))),
  [.t 2, .t 3]⟩

/- noria/noriaref01.Same -/
def d8 : DFun := ⟨
  .seq (.ops false [⟨some 4, .mv (.c (.bool false)), none⟩])
  (.seq (.seq (.ops false [⟨some 6, .mv (.t 0), none⟩, ⟨some 7, .len (.t 6), none⟩, ⟨some 8, .mv (.t 1), none⟩, ⟨some 9, .len (.t 8), none⟩, ⟨some 10, .bin .neq (.t 7) (.t 9), none⟩])
  (.cond (.t 10) (.seq (.ops false [⟨some 4, .mv (.c (.bool false)), none⟩])
   (.ret))
   (.skip)))
  (.seq (.seq (.ops false [⟨some 5, .mv (.c (.int .i64 0)), none⟩])
  (.block 0 (.loop [0, 1, 5] (some 0) (.seq (.seq (.ops false [⟨some 11, .mv (.t 5), none⟩, ⟨some 12, .mv (.t 0), none⟩, ⟨some 13, .len (.t 12), none⟩, ⟨some 14, .bin .lss (.t 11) (.t 13), none⟩])
    (.cond (.t 14) (.skip)
     (.exit 0)))
    (.seq (.block 1 (.seq (.ops true [⟨some 17, .mv (.t 0), none⟩, ⟨some 18, .mv (.t 5), none⟩, ⟨some 19, .iaddr 1 (.t 17) (.t 18), none⟩, ⟨some 20, .load none (.t 19), none⟩, ⟨some 21, .mv (.t 1), none⟩, ⟨some 22, .mv (.t 5), none⟩, ⟨some 23, .iaddr 1 (.t 21) (.t 22), none⟩, ⟨some 24, .load none (.t 23), none⟩, ⟨some 25, .bin .neq (.t 20) (.t 24), none⟩])
     (.cond (.t 25) (.seq (.ops false [⟨some 4, .mv (.c (.bool false)), none⟩])
      (.ret))
      (.skip))))
    (.ops false [⟨some 15, .mv (.t 5), none⟩, ⟨some 16, .bin .add (.t 15) (.c (.int .i64 1)), none⟩, ⟨some 5, .mv (.t 16), none⟩]))))))
  (.seq (.ops false [⟨some 4, .mv (.c (.bool true)), none⟩])
  (.ret)))),
  [.t 4]⟩

/- noria/octet.Int -/
def d9 : DFun := ⟨
  .seq (.ops false [⟨some 2, .mv (.c (.nil)), none⟩])
  (.seq (.ops false [⟨some 4, .mv (.t 0), none⟩, ⟨some 5, .conv .u64 (.t 4), none⟩, ⟨some 6, .callP 13 [(.t 5), (.c (.int .i64 8))], none⟩, ⟨some 3, .mv (.t 6), none⟩])
  (.seq (.block 0 (.loop [3] (some 0) (.seq (.seq (.ops false [⟨some 7, .mv (.t 3), none⟩, ⟨some 8, .callP 17 [(.t 7)], none⟩])
    (.cond (.t 8) (.skip)
     (.exit 0)))
    (.block 1 (.ops false [⟨some 9, .mv (.t 3), none⟩, ⟨some 10, .slice 1 (.t 9) (some (.c (.int .i64 1))) none none, none⟩, ⟨some 3, .mv (.t 10), none⟩])))))
  (.seq (.ops false [⟨some 11, .mv (.t 3), none⟩, ⟨some 12, .callP 18 [(.t 11)], none⟩, ⟨some 2, .mv (.t 12), none⟩])
  (.ret)))),
  [.t 2]⟩

/- noria/noriaref01.Int -/
def d10 : DFun := ⟨
  .seq (.ops false [⟨some 2, .mv (.c (.nil)), none⟩])
  (.seq (.ops false [⟨some 4, .mv (.t 0), none⟩, ⟨some 5, .conv .u64 (.t 4), none⟩, ⟨some 6, .callP 14 [(.t 5), (.c (.int .i64 8))], none⟩, ⟨some 3, .mv (.t 6), none⟩])
  (.seq (.block 0 (.loop [3] (some 0) (.seq (.seq (.ops false [⟨some 7, .mv (.t 3), none⟩, ⟨some 8, .len (.t 7), none⟩, ⟨some 9, .bin .gtr (.t 8) (.c (.int .i64 1)), none⟩, ⟨some 10, .mv (.t 9), none⟩, ⟨some 11, .mv (.t 3), some (10, true)⟩, ⟨some 12, .iaddr 1 (.t 11) (.c (.int .i64 0)), some (10, true)⟩, ⟨some 13, .load none (.t 12), some (10, true)⟩, ⟨some 14, .bin .eql (.t 13) (.c (.int .u8 0)), some (10, true)⟩, ⟨some 15, .mv (.t 14), some (10, true)⟩, ⟨some 16, .mv (.t 3), some (15, true)⟩, ⟨some 17, .iaddr 1 (.t 16) (.c (.int .i64 1)), some (15, true)⟩, ⟨some 18, .load none (.t 17), some (15, true)⟩, ⟨some 19, .bin .lss (.t 18) (.c (.int .u8 128)), some (15, true)⟩, ⟨some 20, .pick (.t 15) (.t 19) (.c (.bool false)), some (10, true)⟩, ⟨some 21, .mv (.t 20), some (10, true)⟩, ⟨some 22, .mv (.t 3), some (21, false)⟩, ⟨some 23, .iaddr 1 (.t 22) (.c (.int .i64 0)), some (21, false)⟩, ⟨some 24, .load none (.t 23), some (21, false)⟩, ⟨some 25, .bin .eql (.t 24) (.c (.int .u8 255)), some (21, false)⟩, ⟨some 26, .mv (.t 25), some (21, false)⟩, ⟨some 27, .mv (.t 3), some (26, true)⟩, ⟨some 28, .iaddr 1 (.t 27) (.c (.int .i64 1)), some (26, true)⟩, ⟨some 29, .load none (.t 28), some (26, true)⟩, ⟨some 30, .bin .geq (.t 29) (.c (.int .u8 128)), some (26, true)⟩, ⟨some 31, .pick (.t 26) (.t 30) (.c (.bool false)), some (21, false)⟩, ⟨some 32, .pick (.t 21) (.c (.bool true)) (.t 31), some (10, true)⟩, ⟨some 33, .pick (.t 10) (.t 32) (.c (.bool false)), none⟩])
    (.cond (.t 33) (.skip)
     (.exit 0)))
    (.block 1 (.ops false [⟨some 34, .mv (.t 3), none⟩, ⟨some 35, .slice 1 (.t 34) (some (.c (.int .i64 1))) none none, none⟩, ⟨some 3, .mv (.t 35), none⟩])))))
  (.seq (.ops false [⟨some 36, .mv (.t 3), none⟩, ⟨some 2, .mv (.t 36), none⟩])
  (.ret)))),
  [.t 2]⟩

/- noria/norialaw01.live -/
def d11 : DFun := ⟨
  .seq (.ops false [⟨some 0, .mv (.c (.bool false)), none⟩])
  (.seq (.ops false [⟨some 6, .bslice true [.int .u8 0] [(some (.c (.int .u8 0))), (some (.c (.int .u8 1)))], none⟩, ⟨some 7, .callP 6 [(.t 6)], none⟩, ⟨some 5, .mv (.t 7), none⟩, ⟨some 8, .extract 0 (.t 5), none⟩, ⟨some 9, .extract 1 (.t 5), none⟩, ⟨some 1, .mv (.t 8), none⟩, ⟨some 2, .mv (.t 9), none⟩])
  (.seq (.ops false [⟨some 11, .bslice true [.int .u8 0] [(some (.c (.int .u8 255))), (some (.c (.int .u8 127)))], none⟩, ⟨some 12, .callP 6 [(.t 11)], none⟩, ⟨some 10, .mv (.t 12), none⟩, ⟨some 13, .extract 0 (.t 10), none⟩, ⟨some 14, .extract 1 (.t 10), none⟩, ⟨some 3, .mv (.t 13), none⟩, ⟨some 4, .mv (.t 14), none⟩])
  (.seq (.ops false [⟨some 15, .callP 13 [(.c (.int .u64 258)), (.c (.int .i64 2))], none⟩, ⟨some 16, .bslice true [.int .u8 0] [(some (.c (.int .u8 1))), (some (.c (.int .u8 2)))], none⟩, ⟨some 17, .callP 8 [(.t 15), (.t 16)], none⟩, ⟨some 18, .mv (.t 17), none⟩, ⟨some 19, .callP 9 [(.c (.int .i64 (-129)))], some (18, true)⟩, ⟨some 20, .bslice true [.int .u8 0] [(some (.c (.int .u8 255))), (some (.c (.int .u8 127)))], some (18, true)⟩, ⟨some 21, .callP 8 [(.t 19), (.t 20)], some (18, true)⟩, ⟨some 22, .pick (.t 18) (.t 21) (.c (.bool false)), none⟩, ⟨some 23, .mv (.t 22), none⟩, ⟨some 24, .mv (.t 2), some (23, true)⟩, ⟨some 25, .un .not (.t 24), some (23, true)⟩, ⟨some 26, .pick (.t 23) (.t 25) (.c (.bool false)), none⟩, ⟨some 27, .mv (.t 26), none⟩, ⟨some 28, .mv (.t 4), some (27, true)⟩, ⟨some 29, .pick (.t 27) (.t 28) (.c (.bool false)), none⟩, ⟨some 30, .mv (.t 29), none⟩, ⟨some 31, .mv (.t 3), some (30, true)⟩, ⟨some 32, .bin .eql (.t 31) (.c (.int .i64 (-129))), some (30, true)⟩, ⟨some 33, .pick (.t 30) (.t 32) (.c (.bool false)), none⟩, ⟨some 0, .mv (.t 33), none⟩])
  (.ret)))),
  [.t 0]⟩

/- noria/octet.Get -/
def d12 : DFun := ⟨
  .seq (.ops false [⟨some 2, .mv (.c (.int .u64 0)), none⟩])
  (.seq (.ops false [⟨some 3, .mv (.c (.int .u64 0)), none⟩])
  (.seq (.seq (.ops false [⟨some 6, .mv (.t 0), none⟩, ⟨some 7, .len (.t 6), none⟩, ⟨some 8, .mv (.c (.int .i64 0)), none⟩])
  (.block 0 (.loop [3, 6, 7, 8] (some 0) (.seq (.ops false [⟨some 9, .bin .lss (.t 8) (.t 7), none⟩])
    (.seq (.cond (.t 9) (.skip)
     (.exit 0))
    (.seq (.block 1 (.seq (.ops false [⟨some 10, .iaddr 1 (.t 6) (.t 8), none⟩, ⟨some 11, .load none (.t 10), none⟩, ⟨some 5, .mv (.t 11), none⟩])
     (.ops false [⟨some 12, .mv (.t 3), none⟩, ⟨some 13, .bin .shl (.t 12) (.c (.int .u64 8)), none⟩, ⟨some 14, .mv (.t 5), none⟩, ⟨some 15, .conv .u64 (.t 14), none⟩, ⟨some 16, .bin .or (.t 13) (.t 15), none⟩, ⟨some 3, .mv (.t 16), none⟩])))
    (.ops false [⟨some 17, .bin .add (.t 8) (.c (.int .i64 1)), none⟩, ⟨some 8, .mv (.t 17), none⟩])))))))
  (.seq (.ops false [⟨some 18, .mv (.t 3), none⟩, ⟨some 2, .mv (.t 18), none⟩])
  (.ret)))),
  [.t 2]⟩

/- noria/octet.Put -/
def d13 : DFun := ⟨
  .seq (.ops false [⟨some 4, .mv (.c (.nil)), none⟩])
  (.seq (.seq (.ops false [⟨some 7, .mv (.t 1), none⟩, ⟨some 8, .bin .lss (.t 7) (.c (.int .i64 1)), none⟩, ⟨some 9, .mv (.t 8), none⟩, ⟨some 10, .mv (.t 1), some (9, false)⟩, ⟨some 11, .bin .gtr (.t 10) (.c (.int .i64 8)), some (9, false)⟩, ⟨some 12, .pick (.t 9) (.c (.bool true)) (.t 11), none⟩])
  (.cond (.t 12) (.seq (.ops false [⟨some 4, .mv (.c (.nil)), none⟩])
   (.ret))
   (.skip)))
  (.seq (.ops false [⟨some 13, .mv (.t 1), none⟩, ⟨some 14, .make [.int .u8 0] (.t 13) (.t 13), none⟩, ⟨some 5, .mv (.t 14), none⟩])
  (.seq (.seq (.ops false [⟨some 15, .mv (.t 1), none⟩, ⟨some 16, .mv (.c (.int .i64 0)), none⟩])
  (.block 0 (.loop [0, 1, 5, 15, 16] (some 1) (.seq (.ops false [⟨some 17, .bin .lss (.t 16) (.t 15), none⟩])
    (.seq (.cond (.t 17) (.skip)
     (.exit 0))
    (.seq (.block 1 (.seq (.ops false [⟨some 18, .mv (.t 16), none⟩, ⟨some 6, .mv (.t 18), none⟩])
     (.ops false [⟨some 19, .mv (.t 5), none⟩, ⟨some 20, .mv (.t 1), none⟩, ⟨some 21, .bin .sub (.t 20) (.c (.int .i64 1)), none⟩, ⟨some 22, .mv (.t 6), none⟩, ⟨some 23, .bin .sub (.t 21) (.t 22), none⟩, ⟨some 24, .mv (.t 0), none⟩, ⟨some 25, .mv (.t 6), none⟩, ⟨some 26, .bin .mul (.c (.int .i64 8)) (.t 25), none⟩, ⟨some 27, .bin .shr (.t 24) (.t 26), none⟩, ⟨some 28, .conv .u8 (.t 27), none⟩, ⟨some 29, .iaddr 1 (.t 19) (.t 23), none⟩, ⟨none, .store 1 (.t 29) (.t 28), none⟩])))
    (.ops false [⟨some 30, .bin .add (.t 16) (.c (.int .i64 1)), none⟩, ⟨some 16, .mv (.t 30), none⟩])))))))
  (.seq (.ops false [⟨some 31, .mv (.t 5), none⟩, ⟨some 4, .mv (.t 31), none⟩])
  (.ret))))),
  [.t 4]⟩

/- noria/noriaref01.Put -/
def d14 : DFun := ⟨
  .seq (.ops false [⟨some 4, .mv (.c (.nil)), none⟩])
  (.seq (.seq (.ops false [⟨some 7, .mv (.t 1), none⟩, ⟨some 8, .bin .lss (.t 7) (.c (.int .i64 1)), none⟩, ⟨some 9, .mv (.t 8), none⟩, ⟨some 10, .mv (.t 1), some (9, false)⟩, ⟨some 11, .bin .gtr (.t 10) (.c (.int .i64 8)), some (9, false)⟩, ⟨some 12, .pick (.t 9) (.c (.bool true)) (.t 11), none⟩])
  (.cond (.t 12) (.seq (.ops false [⟨some 4, .mv (.c (.nil)), none⟩])
   (.ret))
   (.skip)))
  (.seq (.ops false [⟨some 13, .bslice true [.int .u8 0] [], none⟩, ⟨some 5, .mv (.t 13), none⟩])
  (.seq (.seq (.ops false [⟨some 6, .mv (.c (.int .i64 0)), none⟩])
  (.block 0 (.loop [0, 1, 5, 6] (some 0) (.seq (.seq (.ops false [⟨some 14, .mv (.t 6), none⟩, ⟨some 15, .mv (.t 1), none⟩, ⟨some 16, .bin .lss (.t 14) (.t 15), none⟩])
    (.cond (.t 16) (.skip)
     (.exit 0)))
    (.seq (.block 1 (.seq (.ops false [⟨some 19, .mv (.t 0), none⟩, ⟨some 20, .bin .rem (.t 19) (.c (.int .u64 256)), none⟩, ⟨some 21, .conv .u8 (.t 20), none⟩, ⟨some 22, .bslice false [.int .u8 0] [(some (.t 21))], none⟩, ⟨some 23, .mv (.t 5), none⟩, ⟨some 24, .append 1 (.t 22) (.t 23), none⟩, ⟨some 5, .mvf (.t 24), none⟩])
     (.ops false [⟨some 25, .mv (.t 0), none⟩, ⟨some 26, .bin .quo (.t 25) (.c (.int .u64 256)), none⟩, ⟨some 0, .mv (.t 26), none⟩])))
    (.ops false [⟨some 17, .mv (.t 6), none⟩, ⟨some 18, .bin .add (.t 17) (.c (.int .i64 1)), none⟩, ⟨some 6, .mv (.t 18), none⟩]))))))
  (.seq (.ops false [⟨some 27, .mv (.t 5), none⟩, ⟨some 4, .mv (.t 27), none⟩])
  (.ret))))),
  [.t 4]⟩

/- noria/noriaref01.Get -/
def d15 : DFun := ⟨
  .seq (.ops false [⟨some 2, .mv (.c (.int .u64 0)), none⟩])
  (.seq (.ops false [⟨some 3, .mv (.c (.int .u64 0)), none⟩])
  (.seq (.seq (.ops false [⟨some 4, .mv (.c (.int .i64 0)), none⟩])
  (.block 0 (.loop [0, 3, 4] (some 0) (.seq (.seq (.ops false [⟨some 5, .mv (.t 4), none⟩, ⟨some 6, .mv (.t 0), none⟩, ⟨some 7, .len (.t 6), none⟩, ⟨some 8, .bin .lss (.t 5) (.t 7), none⟩])
    (.cond (.t 8) (.skip)
     (.exit 0)))
    (.seq (.block 1 (.ops false [⟨some 11, .mv (.t 3), none⟩, ⟨some 12, .bin .mul (.t 11) (.c (.int .u64 256)), none⟩, ⟨some 13, .mv (.t 0), none⟩, ⟨some 14, .mv (.t 4), none⟩, ⟨some 15, .iaddr 1 (.t 13) (.t 14), none⟩, ⟨some 16, .load none (.t 15), none⟩, ⟨some 17, .conv .u64 (.t 16), none⟩, ⟨some 18, .bin .add (.t 12) (.t 17), none⟩, ⟨some 3, .mv (.t 18), none⟩]))
    (.ops false [⟨some 9, .mv (.t 4), none⟩, ⟨some 10, .bin .add (.t 9) (.c (.int .i64 1)), none⟩, ⟨some 4, .mv (.t 10), none⟩]))))))
  (.seq (.ops false [⟨some 19, .mv (.t 3), none⟩, ⟨some 2, .mv (.t 19), none⟩])
  (.ret)))),
  [.t 2]⟩

/- noria/octet.Same -/
def d16 : DFun := ⟨
  .seq (.ops false [⟨some 4, .mv (.c (.bool false)), none⟩])
  (.seq (.ops false [⟨some 5, .mv (.t 0), none⟩, ⟨some 6, .mv (.t 1), none⟩, ⟨some 7, .callP 19 [(.t 5), (.t 6)], none⟩, ⟨some 4, .mv (.t 7), none⟩])
  (.ret)),
  [.t 4]⟩

/- noria/octet.idle -/
def d17 : DFun := ⟨
  .seq (.ops false [⟨some 2, .mv (.c (.bool false)), none⟩])
  (.seq (.seq (.ops false [⟨some 4, .mv (.t 0), none⟩, ⟨some 5, .len (.t 4), none⟩, ⟨some 6, .bin .lss (.t 5) (.c (.int .i64 2)), none⟩])
  (.cond (.t 6) (.seq (.ops false [⟨some 2, .mv (.c (.bool false)), none⟩])
   (.ret))
   (.skip)))
  (.seq (.ops false [⟨some 7, .mv (.t 0), none⟩, ⟨some 8, .iaddr 1 (.t 7) (.c (.int .i64 1)), none⟩, ⟨some 9, .load none (.t 8), none⟩, ⟨some 10, .bin .and (.t 9) (.c (.int .u8 128)), none⟩, ⟨some 11, .bin .neq (.t 10) (.c (.int .u8 0)), none⟩, ⟨some 3, .mv (.t 11), none⟩])
  (.seq (.ops false [⟨some 12, .mv (.t 0), none⟩, ⟨some 13, .iaddr 1 (.t 12) (.c (.int .i64 0)), none⟩, ⟨some 14, .load none (.t 13), none⟩, ⟨some 15, .bin .eql (.t 14) (.c (.int .u8 0)), none⟩, ⟨some 16, .mv (.t 15), none⟩, ⟨some 17, .mv (.t 3), some (16, true)⟩, ⟨some 18, .un .not (.t 17), some (16, true)⟩, ⟨some 19, .pick (.t 16) (.t 18) (.c (.bool false)), none⟩, ⟨some 20, .mv (.t 19), none⟩, ⟨some 21, .mv (.t 0), some (20, false)⟩, ⟨some 22, .iaddr 1 (.t 21) (.c (.int .i64 0)), some (20, false)⟩, ⟨some 23, .load none (.t 22), some (20, false)⟩, ⟨some 24, .bin .eql (.t 23) (.c (.int .u8 255)), some (20, false)⟩, ⟨some 25, .mv (.t 24), some (20, false)⟩, ⟨some 26, .mv (.t 3), some (25, true)⟩, ⟨some 27, .pick (.t 25) (.t 26) (.c (.bool false)), some (20, false)⟩, ⟨some 28, .pick (.t 20) (.c (.bool true)) (.t 27), none⟩, ⟨some 2, .mv (.t 28), none⟩])
  (.ret)))),
  [.t 2]⟩

/- slices.Clone[[]byte,byte] -/
def d18 : DFun := ⟨
  .seq (.ops false [⟨some 2, .mv (.c (.nil)), none⟩])
  (.seq (.seq (.ops false [⟨some 3, .mv (.t 0), none⟩, ⟨some 4, .snil false (.t 3), none⟩])
  (.cond (.t 4) (.seq (.ops false [⟨some 2, .mv (.c (.nil)), none⟩])
   (.ret))
   (.skip)))
  (.seq (.ops false [⟨some 5, .bslice false [.int .u8 0] [], none⟩, ⟨some 6, .mv (.t 0), none⟩, ⟨some 7, .append 1 (.t 5) (.t 6), none⟩, ⟨some 2, .mv (.t 7), none⟩])
  (.ret))),
  [.t 2]⟩

/- slices.Equal[[]byte,byte] -/
def d19 : DFun := ⟨
  .seq (.ops false [⟨some 4, .mv (.c (.bool false)), none⟩])
  (.seq (.seq (.ops false [⟨some 6, .mv (.t 0), none⟩, ⟨some 7, .len (.t 6), none⟩, ⟨some 8, .mv (.t 1), none⟩, ⟨some 9, .len (.t 8), none⟩, ⟨some 10, .bin .neq (.t 7) (.t 9), none⟩])
  (.cond (.t 10) (.seq (.ops false [⟨some 4, .mv (.c (.bool false)), none⟩])
   (.ret))
   (.skip)))
  (.seq (.seq (.ops false [⟨some 11, .mv (.t 0), none⟩, ⟨some 12, .len (.t 11), none⟩, ⟨some 13, .mv (.c (.int .i64 0)), none⟩])
  (.block 0 (.loop [0, 1, 12, 13] (some 0) (.seq (.ops false [⟨some 14, .bin .lss (.t 13) (.t 12), none⟩])
    (.seq (.cond (.t 14) (.skip)
     (.exit 0))
    (.seq (.block 1 (.seq (.ops false [⟨some 15, .mv (.t 13), none⟩, ⟨some 5, .mv (.t 15), none⟩])
     (.seq (.ops true [⟨some 16, .mv (.t 0), none⟩, ⟨some 17, .mv (.t 5), none⟩, ⟨some 18, .iaddr 1 (.t 16) (.t 17), none⟩, ⟨some 19, .load none (.t 18), none⟩, ⟨some 20, .mv (.t 1), none⟩, ⟨some 21, .mv (.t 5), none⟩, ⟨some 22, .iaddr 1 (.t 20) (.t 21), none⟩, ⟨some 23, .load none (.t 22), none⟩, ⟨some 24, .bin .neq (.t 19) (.t 23), none⟩])
     (.cond (.t 24) (.seq (.ops false [⟨some 4, .mv (.c (.bool false)), none⟩])
      (.ret))
      (.skip)))))
    (.ops false [⟨some 25, .bin .add (.t 13) (.c (.int .i64 1)), none⟩, ⟨some 13, .mv (.t 25), none⟩])))))))
  (.seq (.ops false [⟨some 4, .mv (.c (.bool true)), none⟩])
  (.ret)))),
  [.t 4]⟩

theorem m3 : mFun Try.prog 3 2 d3 = true := by kernel_rfl
theorem m4 : mFun Try.prog 4 2 d4 = true := by kernel_rfl
theorem m5 : mFun Try.prog 5 3 d5 = true := by kernel_rfl
theorem m6 : mFun Try.prog 6 1 d6 = true := by kernel_rfl
theorem m7 : mFun Try.prog 7 1 d7 = true := by kernel_rfl
theorem m8 : mFun Try.prog 8 2 d8 = true := by kernel_rfl
theorem m9 : mFun Try.prog 9 1 d9 = true := by kernel_rfl
theorem m10 : mFun Try.prog 10 1 d10 = true := by kernel_rfl
theorem m11 : mFun Try.prog 11 0 d11 = true := by kernel_rfl
theorem m12 : mFun Try.prog 12 1 d12 = true := by kernel_rfl
theorem m13 : mFun Try.prog 13 2 d13 = true := by kernel_rfl
theorem m14 : mFun Try.prog 14 2 d14 = true := by kernel_rfl
theorem m15 : mFun Try.prog 15 1 d15 = true := by kernel_rfl
theorem m16 : mFun Try.prog 16 2 d16 = true := by kernel_rfl
theorem m17 : mFun Try.prog 17 1 d17 = true := by kernel_rfl
theorem m18 : mFun Try.prog 18 1 d18 = true := by kernel_rfl
theorem m19 : mFun Try.prog 19 2 d19 = true := by kernel_rfl
end Go.Proofs.Ytfcnfjaehpeclaa
