import Derived.Test.YtcopfdomcimhoaaDoorFinds
namespace Go.Proofs.YtcopfdomcimhoaaDoor.Pure
theorem FaultFinds (n m : Int) (l : List ByteArray) : Flt.geyserlaw01_FaultFinds.f n m l = some true := rfl
end Go.Proofs.YtcopfdomcimhoaaDoor.Pure
