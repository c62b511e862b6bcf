/- MADE BY PROGRAM (mksk.py): the skeletons of bodies, and each function's entry. -/
import Derived.Test.YtpjkiomccpjboaaGreatDoorProg
import Derived.Test.YtpjkiomccpjboaaGreatDoorTk
namespace Go.Proofs.YtpjkiomccpjboaaGreatDoor
open Go Go.Sx
def sk86 : Sk := (.seq (.rg 0 false) (.seq (.seq (.rg 1 false) (.cond (.tmp 9) (.seq (.rg 2 false) .ret) .skip)) (.seq (.seq (.rg 3 false) (.cond (.tmp 11) (.rg 4 false) .skip)) (.seq (.rg 5 false) (.seq (.rg 6 false) (.seq (.seq (.rg 7 false) (.cond (.tmp 23) (.rg 8 false) .skip)) (.seq (.rg 9 false) (.seq (.seq (.rg 10 false) (.cond (.tmp 35) (.rg 11 false) .skip)) (.seq (.rg 12 false) .ret)))))))))
theorem bd86 : Tryz.f86.body = some (sk86.code Tryz.f86) := by kernel_rfl
theorem en86 {args : List Value} {w : World} {S : Nat → Prop} {M : List Nat} {C : List Chunk} {G : List (Value × D)} {Rr : Ending → World → Prop} (hl : Nat.ble args.length Tryz.f86.ntmps = true) (hp : Pre w S M C) (hG : AllG w S G) (H : J Tryz.prog Tryz.f86 (retR Tryz.prog Tryz.f86 Rr) Tryz.f86.ntmps [.c sk86] (envOf 0 args) [] [] [(M, w)] ⟨newS S M w, C, G⟩) : Calls Tryz.prog 86 args.toArray w Rr :=
  calls_J Tryz.func86 bd86 rfl hl hp hG H
theorem ep86 {args : List Value} {w : World} {S : Nat → Prop} {G : List (Value × D)} {Rr : Ending → World → Prop} (hl : Nat.ble args.length Tryz.f86.ntmps = true) (hG : AllG w S G) (H : J Tryz.prog Tryz.f86 (retR Tryz.prog Tryz.f86 Rr) Tryz.f86.ntmps [.c sk86] (envOf 0 args) [] [] [([], w)] ⟨newS S [] w, [], G⟩) : Calls Tryz.prog 86 args.toArray w Rr :=
  calls_J Tryz.func86 bd86 rfl hl (Pre.none _ _) hG H
end Go.Proofs.YtpjkiomccpjboaaGreatDoor
