/- Part 15 of the texts of a claim: OpenP. -/
import Derived.Test.YtmkapocibaojdaaGreatDoorTw14
section
namespace Go.Proofs.YtmkapocibaojdaaGreatDoor
open Go Go.Sx Go.ChangeShapes Go.WideShapes Go.RowKit
set_option maxHeartbeats 4000000 in
theorem opStrs {W:World}:Opens Tryz.prog W 51 1 (fun l:List ByteArray=>[.sl 1 (l.map eS)]) (fun l=>(∀d∈l,d.size≤maxLen)∧l.length≤maxLen):=.slice opStr Tryz.underlying51 (by kernel_rfl) (by decide)
set_option maxRecDepth 100000 in
set_option maxHeartbeats 4000000 in
theorem openBool {W:World} {base:Nat} {v:Value} (hv:Value.okWide Tryz.prog W .any base 4 v):∃b:Bool,v=.bool b:=by
 obtain⟨b,rfl⟩:=okWide_bool Tryz.underlying4 hv
 exact⟨b,rfl⟩
end Go.Proofs.YtmkapocibaojdaaGreatDoor
end
