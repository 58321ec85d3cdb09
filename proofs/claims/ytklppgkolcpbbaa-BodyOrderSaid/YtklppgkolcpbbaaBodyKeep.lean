/-
  Plain: whether a body keeps caps.
-/
import Derived.Test.YtklppgkolcpbbaaBodyW4
namespace Go.Proofs.Ytklppgkolcpbbaa
open Go Go.RowKit
def fieldV (b : Bod.Bd) (c : Bod.Cp) : Int := if c.ok = true then b.fld c.r c.limb.toNat else 0
def keepV (b : Bod.Bd) (c : Bod.Cp) : Bool := c.ok && decide (b.fld c.r c.limb.toNat ≤ c.n)
def keepsV (b : Bod.Bd) (l : List Bod.Cp) : Bool := l.all (keepV b)
end Go.Proofs.Ytklppgkolcpbbaa
