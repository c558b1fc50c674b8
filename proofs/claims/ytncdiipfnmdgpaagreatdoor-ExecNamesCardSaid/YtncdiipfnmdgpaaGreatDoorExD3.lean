/- The known calls, in words. -/
import Derived.Test.YtncdiipfnmdgpaaGreatDoorExD2
namespace Go.Proofs.YtncdiipfnmdgpaaGreatDoor
open Ab
set_option maxRecDepth 1000000
def k602 : Know := ⟨11,[q117,(.int .i64 2),(lstOf 1 [(.int .i64 1),(.int .i64 1),(.int .i64 2),(.int .i64 1)])],(.bool true),18983,[]⟩
end Go.Proofs.YtncdiipfnmdgpaaGreatDoor
