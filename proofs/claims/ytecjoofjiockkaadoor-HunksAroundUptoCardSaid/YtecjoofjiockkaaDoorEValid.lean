/-
  A name for hunks.Valid at a hunk.
-/
import Derived.Test.YtecjoofjiockkaaDoorPp4
namespace Go.Proofs.YtecjoofjiockkaaDoor.Ext
open Go.RowKit Go.Proofs.YtecjoofjiockkaaDoor.Pp
def validF (h : S41) : Option (Option Int) := hunks_Valid.f h.f0 h.f1 h.f2 h.f3 h.f4 h.f5
end Go.Proofs.YtecjoofjiockkaaDoor.Ext
