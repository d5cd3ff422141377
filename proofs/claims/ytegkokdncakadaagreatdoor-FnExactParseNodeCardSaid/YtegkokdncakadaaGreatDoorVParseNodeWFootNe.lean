-- cut out of the printed words: what this claim asks for
import Derived.Test.YtegkokdncakadaaGreatDoorVParseNodeWN
namespace Go.Proofs.YtegkokdncakadaaGreatDoorW.PrintWords
open Go.RowKit
namespace Kd
section
variable {α : Type} {d : Kd α} {W : World} {g n : Nat} {S ok : Nat → Prop} {A : Option Addr} {ad : Addr} {xs : List α}
end
end Kd
end Go.Proofs.YtegkokdncakadaaGreatDoorW.PrintWords
