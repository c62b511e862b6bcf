/- Part 15 of the texts of a claim: OpenP OpenE. -/
import Derived.Test.YtmkapocibaojdaaGreatDoorTj14
section
namespace Go.Proofs.YtmkapocibaojdaaGreatDoor
open Go Go.Sx Go.ChangeShapes Go.WideShapes Go.RowKit
set_option maxHeartbeats 4000000 in
theorem opStrs {W:World}:Opens Tryz.prog W 51 1 (fun l:List ByteArray=>[.sl 1 (l.map eS)]) (fun l=>(∀d∈l,d.size≤maxLen)∧l.length≤maxLen):=.slice opStr Tryz.underlying51 (by kernel_rfl) (by decide)
end Go.Proofs.YtmkapocibaojdaaGreatDoor
end
section
namespace Go.Proofs.YtmkapocibaojdaaGreatDoor
open Go Go.Sx Go.ChangeShapes Go.WideShapes Go.RowKit
structure OkVal (v:ValT):Prop where
 kind:Rng v.kind
 text:v.text.size≤maxLen
 n:Rng v.n
 set:(∀s∈v.set,s.size≤maxLen)∧v.set.length≤maxLen
structure OkRead (r:ReadT):Prop where
 key:r.key.size≤maxLen
 v:OkVal r.v
structure OkEv (e:EvT):Prop where
 ses:Rng e.ses
 place:Rng e.place
 at':(∀z∈e.at',Rng z)∧e.at'.length≤maxLen
 reads:(∀r∈e.reads,OkRead r)∧e.reads.length≤maxLen
 c:OkCom e.c
set_option maxHeartbeats 4000000 in
theorem opVal {W:World}:Opens Tryz.prog W 64 4 (fun v:ValT=>[dI v.kind,.v (.string v.text),dI v.n,dStrs v.set]) OkVal:=
 (Opens.struct Tryz.underlying64 (by kernel_rfl) (.cons opInt rfl (.cons opStr rfl (.cons opInt rfl (.cons opStrs rfl .nil))))).map (fun x=>⟨x.1,x.2.1,x.2.2.1,x.2.2.2.1⟩) (fun _=>rfl) fun _ h=>⟨h.1,h.2.1,h.2.2.1,h.2.2.2.1⟩
set_option maxHeartbeats 4000000 in
theorem opRead {W:World}:Opens Tryz.prog W 197 5 eRead OkRead:=
 (Opens.struct Tryz.underlying197 (by kernel_rfl) (.cons opStr rfl (.cons opVal rfl .nil))).map (fun x=>⟨x.1,x.2.1⟩) (fun _=>rfl) fun _ h=>⟨h.1,h.2.1⟩
set_option maxHeartbeats 4000000 in
theorem opReads {W:World}:Opens Tryz.prog W 93 1 (fun l:List ReadT=>[.sl 5 (l.map eRead)]) (fun l=>(∀d∈l,OkRead d)∧l.length≤maxLen):=.slice opRead Tryz.underlying93 (by kernel_rfl) (by decide)
set_option maxHeartbeats 4000000 in
theorem opEv {W:World}:Opens Tryz.prog W 111 7 eEv OkEv:=
 (Opens.struct Tryz.underlying111 (by kernel_rfl) (.cons opInt rfl (.cons opInt rfl (.cons opInts rfl (.cons opReads rfl (.cons opCom rfl .nil)))))).map (fun x=>⟨x.1,x.2.1,x.2.2.1,x.2.2.2.1,x.2.2.2.2.1⟩) (fun _=>rfl) fun _ h=>⟨h.1,h.2.1,h.2.2.1,h.2.2.2.1,h.2.2.2.2.1⟩
set_option maxHeartbeats 4000000 in
theorem opEvs {W:World}:Opens Tryz.prog W 98 1 (fun l:List EvT=>[.sl 7 (l.map eEv)]) (fun l=>(∀d∈l,OkEv d)∧l.length≤maxLen):=.slice opEv Tryz.underlying98 (by kernel_rfl) (by decide)
end Go.Proofs.YtmkapocibaojdaaGreatDoor
end
