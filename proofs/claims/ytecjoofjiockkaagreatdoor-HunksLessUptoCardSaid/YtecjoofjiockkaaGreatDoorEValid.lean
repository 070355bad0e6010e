/-
  A name for hunks.Valid at a hunk.
-/
import Derived.Test.YtecjoofjiockkaaGreatDoorPp4
namespace Go.Proofs.YtecjoofjiockkaaGreatDoor.Ext
open Go.RowKit Go.Proofs.YtecjoofjiockkaaGreatDoor.Pp
def validF (h : S29) : Option (Option Int) := hunks_Valid.f h.f0 h.f1 h.f2 h.f3 h.f4 h.f5
end Go.Proofs.YtecjoofjiockkaaGreatDoor.Ext
