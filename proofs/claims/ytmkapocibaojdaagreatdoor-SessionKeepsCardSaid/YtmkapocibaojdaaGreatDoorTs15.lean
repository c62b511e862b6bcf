/- Part 15 of the texts of a claim: OpenT. -/
import Derived.Test.YtmkapocibaojdaaGreatDoorTs14
section
namespace Go.Proofs.YtmkapocibaojdaaGreatDoor
open Go Go.Sx Go.ChangeShapes Go.WideShapes Go.RowKit
structure OkStep (s:StepT):Prop where
 kind:s.kind.size≤maxLen
 key:s.key.size≤maxLen
 text:s.text.size≤maxLen
 p:Rng s.p
 n:Rng s.n
set_option maxHeartbeats 4000000 in
theorem opStep {W:World}:Opens Tryz.prog W 81 5 eStep OkStep:=
 (Opens.struct Tryz.underlying81 (by kernel_rfl) (.cons opStr rfl (.cons opStr rfl (.cons opStr rfl (.cons opInt rfl (.cons opInt rfl .nil)))))).map (fun x=>⟨x.1,x.2.1,x.2.2.1,x.2.2.2.1,x.2.2.2.2.1⟩) (fun _=>rfl) fun _ h=>⟨h.1,h.2.1,h.2.2.1,h.2.2.2.1,h.2.2.2.2.1⟩
set_option maxHeartbeats 4000000 in
theorem opSteps {W:World}:Opens Tryz.prog W 74 1 (fun l:List StepT=>[.sl 5 (l.map eStep)]) (fun l=>(∀d∈l,OkStep d)∧l.length≤maxLen):=.slice opStep Tryz.underlying74 (by kernel_rfl) (by decide)
end Go.Proofs.YtmkapocibaojdaaGreatDoor
end
