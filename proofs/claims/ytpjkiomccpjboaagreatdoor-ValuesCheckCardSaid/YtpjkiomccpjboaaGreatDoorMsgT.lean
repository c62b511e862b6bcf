/- Dots, ops, commits, messages as data. -/
import Derived.Test.YtpjkiomccpjboaaGreatDoorDat
namespace Go.Sx
open Go

structure DotT where
  place : Int
  time : Int
  no : Int
structure OpT where
  no : Int
  key : ByteArray
  kind : Int
  text : ByteArray
  n : Int
  remove : Bool
  dots : List DotT
structure ComT where
  when : List Int
  place : Int
  ops : List OpT
structure MsgT where
  fm : Int
  to : Int
  shard : Int
  seq : Int
  time : Int
  beat : Bool
  c : ComT
abbrev eDot (d : DotT) : List D := [dI d.place, dI d.time, dI d.no]
abbrev eOp (o : OpT) : List D := [dI o.no, .v (.string o.key), dI o.kind, .v (.string o.text), dI o.n, .v (.bool o.remove), .sl 3 (o.dots.map eDot)]
abbrev eCom (c : ComT) : List D := [.sl 1 (c.when.map eI), dI c.place, .sl 7 (c.ops.map eOp)]
abbrev eMsg (m : MsgT) : List D := [dI m.fm, dI m.to, dI m.shard, dI m.seq, dI m.time, .v (.bool m.beat), .sl 1 (m.c.when.map eI), dI m.c.place, .sl 7 (m.c.ops.map eOp)]
instance : DecidableEq DotT := fun a b => decidable_of_iff (a.place = b.place ∧ a.time = b.time ∧ a.no = b.no) ⟨fun ⟨h1, h2, h3⟩ => by cases a; cases b; simp_all, fun h => by subst h; exact ⟨rfl, rfl, rfl⟩⟩
end Go.Sx
