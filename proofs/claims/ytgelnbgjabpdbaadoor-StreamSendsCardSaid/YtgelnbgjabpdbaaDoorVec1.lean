/- The package's errors that the streams' own code reads. -/
import Derived.Test.YtgelnbgjabpdbaaDoorDat
import Derived.Test.YtgelnbgjabpdbaaDoorTk
namespace Go.Proofs.YtgelnbgjabpdbaaDoor
open Go Go.Sx

/-- The package's errors: each variable's own value (the first place: nothing). -/
abbrev globs (er : Nat → Addr) : List (Value × D) := [(.nilIface, .v .nilIface), dE 168 er 0 2, dE 168 er 2 3]
end Go.Proofs.YtgelnbgjabpdbaaDoor
