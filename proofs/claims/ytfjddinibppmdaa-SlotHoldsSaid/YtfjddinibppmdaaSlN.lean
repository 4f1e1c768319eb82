/- One call, of both. -/
import Derived.Test.YtfjddinibppmdaaSlM
set_option linter.all false
set_option maxRecDepth 20000
namespace Go.Proofs.Ytfjddinibppmdaa
open Go.Nk

structure okA (a : As) : Prop where
  h : okV a.h
  o : okV a.o
  ho : a.o.there = true → a.h.there = true
def actS (n : Nat) (q : Qs) (x : Img) (v : List Int) (d : Int) (hp : List DObj) : List DObj :=
  if d = 0 then Sload n q x v hp else if d = 1 then Skeep n q v hp else if d = 2 then Sstage n q x hp else if d = 3 then Swrite n q v hp else if d = 4 then Scommit n q hp else Sdrop n q hp
def actA (a : As) (x : Img) (v : List Int) (d : Int) : As :=
  if d = 0 then loadA a x v else if d = 1 then keepA a v else if d = 2 then stageA a x else if d = 3 then writeA a v else if d = 4 then commitA a else dropA a
end Go.Proofs.Ytfjddinibppmdaa
