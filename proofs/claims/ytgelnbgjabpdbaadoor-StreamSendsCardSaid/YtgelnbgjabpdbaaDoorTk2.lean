/- MADE BY PROGRAM (mksk.py): the skeletons of bodies, and each function's entry. -/
import Derived.Test.YtgelnbgjabpdbaaDoorProg
import Derived.Test.YtgelnbgjabpdbaaDoorTk
namespace Go.Proofs.YtgelnbgjabpdbaaDoor
open Go Go.Sx
def sk35 : Sk := (.seq (.rg 0 false) (.seq (.rg 1 false) (.seq (.seq (.rg 2 false) (.cond (.tmp 12) (.seq (.rg 3 false) .ret) .skip)) (.seq (.seq (.rg 4 false) (.block 0 (.loop (.seq (.seq (.rg 5 false) (.cond (.tmp 19) .skip (.exit 0))) (.seq (.block 1 (.seq (.rg 7 false) (.seq (.rg 8 false) (.cond (.tmp 29) (.seq (.rg 9 false) (.rg 10 false)) .skip)))) (.rg 6 false)))))) (.seq (.rg 11 false) (.seq (.rg 12 false) .ret))))))
theorem bd35 : Tryd.f35.body = some (sk35.code Tryd.f35) := by kernel_rfl
theorem en35 {args : List Value} {w : World} {S : Nat → Prop} {M : List Nat} {C : List Chunk} {G : List (Value × D)} {Rr : Ending → World → Prop} (hl : Nat.ble args.length Tryd.f35.ntmps = true) (hp : Pre w S M C) (hG : AllG w S G) (H : J Tryd.prog Tryd.f35 (retR Tryd.prog Tryd.f35 Rr) Tryd.f35.ntmps [.c sk35] (envOf 0 args) [] [] [(M, w)] ⟨newS S M w, C, G⟩) : Calls Tryd.prog 35 args.toArray w Rr :=
  calls_J Tryd.func35 bd35 rfl hl hp hG H
theorem ep35 {args : List Value} {w : World} {S : Nat → Prop} {G : List (Value × D)} {Rr : Ending → World → Prop} (hl : Nat.ble args.length Tryd.f35.ntmps = true) (hG : AllG w S G) (H : J Tryd.prog Tryd.f35 (retR Tryd.prog Tryd.f35 Rr) Tryd.f35.ntmps [.c sk35] (envOf 0 args) [] [] [([], w)] ⟨newS S [] w, [], G⟩) : Calls Tryd.prog 35 args.toArray w Rr :=
  calls_J Tryd.func35 bd35 rfl hl (Pre.none _ _) hG H
def sk36 : Sk := (.seq (.rg 0 false) (.seq (.rg 1 false) .ret))
theorem bd36 : Tryd.f36.body = some (sk36.code Tryd.f36) := by kernel_rfl
theorem en36 {args : List Value} {w : World} {S : Nat → Prop} {M : List Nat} {C : List Chunk} {G : List (Value × D)} {Rr : Ending → World → Prop} (hl : Nat.ble args.length Tryd.f36.ntmps = true) (hp : Pre w S M C) (hG : AllG w S G) (H : J Tryd.prog Tryd.f36 (retR Tryd.prog Tryd.f36 Rr) Tryd.f36.ntmps [.c sk36] (envOf 0 args) [] [] [(M, w)] ⟨newS S M w, C, G⟩) : Calls Tryd.prog 36 args.toArray w Rr :=
  calls_J Tryd.func36 bd36 rfl hl hp hG H
theorem ep36 {args : List Value} {w : World} {S : Nat → Prop} {G : List (Value × D)} {Rr : Ending → World → Prop} (hl : Nat.ble args.length Tryd.f36.ntmps = true) (hG : AllG w S G) (H : J Tryd.prog Tryd.f36 (retR Tryd.prog Tryd.f36 Rr) Tryd.f36.ntmps [.c sk36] (envOf 0 args) [] [] [([], w)] ⟨newS S [] w, [], G⟩) : Calls Tryd.prog 36 args.toArray w Rr :=
  calls_J Tryd.func36 bd36 rfl hl (Pre.none _ _) hG H
def sk38 : Sk := (.seq (.rg 0 false) (.seq (.seq (.rg 1 false) (.seq (.rg 2 false) (.cond (.tmp 11) (.seq (.rg 3 false) .ret) .skip))) (.seq (.seq (.rg 4 false) (.cond (.tmp 38) (.seq (.rg 5 false) .ret) .skip)) (.seq (.seq (.rg 6 false) (.cond (.tmp 43) (.seq (.rg 7 false) .ret) .skip)) (.seq (.seq (.rg 8 false) (.block 0 (.loop (.seq (.rg 9 false) (.seq (.cond (.tmp 49) .skip (.exit 0)) (.seq (.block 1 (.seq (.rg 10 false) (.seq (.rg 11 false) (.seq (.seq (.rg 12 true) (.cond (.tmp 75) (.rg 13 false) .skip)) (.seq (.rg 14 false) (.cond (.tmp 78) (.seq (.rg 15 false) .ret) .skip)))))) (.rg 16 false))))))) (.seq (.rg 17 false) .ret))))))
theorem bd38 : Tryd.f38.body = some (sk38.code Tryd.f38) := by kernel_rfl
theorem en38 {args : List Value} {w : World} {S : Nat → Prop} {M : List Nat} {C : List Chunk} {G : List (Value × D)} {Rr : Ending → World → Prop} (hl : Nat.ble args.length Tryd.f38.ntmps = true) (hp : Pre w S M C) (hG : AllG w S G) (H : J Tryd.prog Tryd.f38 (retR Tryd.prog Tryd.f38 Rr) Tryd.f38.ntmps [.c sk38] (envOf 0 args) [] [] [(M, w)] ⟨newS S M w, C, G⟩) : Calls Tryd.prog 38 args.toArray w Rr :=
  calls_J Tryd.func38 bd38 rfl hl hp hG H
theorem ep38 {args : List Value} {w : World} {S : Nat → Prop} {G : List (Value × D)} {Rr : Ending → World → Prop} (hl : Nat.ble args.length Tryd.f38.ntmps = true) (hG : AllG w S G) (H : J Tryd.prog Tryd.f38 (retR Tryd.prog Tryd.f38 Rr) Tryd.f38.ntmps [.c sk38] (envOf 0 args) [] [] [([], w)] ⟨newS S [] w, [], G⟩) : Calls Tryd.prog 38 args.toArray w Rr :=
  calls_J Tryd.func38 bd38 rfl hl (Pre.none _ _) hG H
def sk39 : Sk := (.seq (.rg 0 false) (.seq (.rg 1 false) (.seq (.seq (.rg 2 false) (.cond (.tmp 10) (.seq (.rg 3 false) .ret) .skip)) (.seq (.seq (.rg 4 false) (.cond (.tmp 29) (.seq (.rg 5 false) .ret) .skip)) (.seq (.seq (.rg 6 false) (.cond (.tmp 37) (.seq (.rg 7 false) .ret) .skip)) (.seq (.seq (.rg 8 false) (.cond (.tmp 42) (.seq (.rg 9 false) .ret) .skip)) (.seq (.seq (.rg 10 false) (.block 0 (.loop (.seq (.seq (.rg 11 false) (.cond (.tmp 48) .skip (.exit 0))) (.seq (.block 1 (.seq (.rg 13 true) (.seq (.seq (.rg 14 true) (.cond (.tmp 81) (.rg 15 false) .skip)) (.seq (.rg 16 false) (.cond (.tmp 83) (.seq (.rg 17 false) .ret) .skip))))) (.rg 12 false)))))) (.seq (.rg 18 false) .ret))))))))
theorem bd39 : Tryd.f39.body = some (sk39.code Tryd.f39) := by kernel_rfl
theorem en39 {args : List Value} {w : World} {S : Nat → Prop} {M : List Nat} {C : List Chunk} {G : List (Value × D)} {Rr : Ending → World → Prop} (hl : Nat.ble args.length Tryd.f39.ntmps = true) (hp : Pre w S M C) (hG : AllG w S G) (H : J Tryd.prog Tryd.f39 (retR Tryd.prog Tryd.f39 Rr) Tryd.f39.ntmps [.c sk39] (envOf 0 args) [] [] [(M, w)] ⟨newS S M w, C, G⟩) : Calls Tryd.prog 39 args.toArray w Rr :=
  calls_J Tryd.func39 bd39 rfl hl hp hG H
theorem ep39 {args : List Value} {w : World} {S : Nat → Prop} {G : List (Value × D)} {Rr : Ending → World → Prop} (hl : Nat.ble args.length Tryd.f39.ntmps = true) (hG : AllG w S G) (H : J Tryd.prog Tryd.f39 (retR Tryd.prog Tryd.f39 Rr) Tryd.f39.ntmps [.c sk39] (envOf 0 args) [] [] [([], w)] ⟨newS S [] w, [], G⟩) : Calls Tryd.prog 39 args.toArray w Rr :=
  calls_J Tryd.func39 bd39 rfl hl (Pre.none _ _) hG H
def sk40 : Sk := (.seq (.rg 0 false) (.seq (.rg 1 false) .ret))
theorem bd40 : Tryd.f40.body = some (sk40.code Tryd.f40) := by kernel_rfl
theorem en40 {args : List Value} {w : World} {S : Nat → Prop} {M : List Nat} {C : List Chunk} {G : List (Value × D)} {Rr : Ending → World → Prop} (hl : Nat.ble args.length Tryd.f40.ntmps = true) (hp : Pre w S M C) (hG : AllG w S G) (H : J Tryd.prog Tryd.f40 (retR Tryd.prog Tryd.f40 Rr) Tryd.f40.ntmps [.c sk40] (envOf 0 args) [] [] [(M, w)] ⟨newS S M w, C, G⟩) : Calls Tryd.prog 40 args.toArray w Rr :=
  calls_J Tryd.func40 bd40 rfl hl hp hG H
theorem ep40 {args : List Value} {w : World} {S : Nat → Prop} {G : List (Value × D)} {Rr : Ending → World → Prop} (hl : Nat.ble args.length Tryd.f40.ntmps = true) (hG : AllG w S G) (H : J Tryd.prog Tryd.f40 (retR Tryd.prog Tryd.f40 Rr) Tryd.f40.ntmps [.c sk40] (envOf 0 args) [] [] [([], w)] ⟨newS S [] w, [], G⟩) : Calls Tryd.prog 40 args.toArray w Rr :=
  calls_J Tryd.func40 bd40 rfl hl (Pre.none _ _) hG H
def sk44 : Sk := (.seq (.rg 0 false) (.seq (.seq (.rg 1 false) (.block 0 (.loop (.seq (.rg 2 false) (.seq (.cond (.tmp 9) .skip (.exit 0)) (.seq (.block 1 (.seq (.rg 3 false) (.seq (.rg 4 false) (.cond (.tmp 16) (.seq (.rg 5 false) .ret) .skip)))) (.rg 6 false))))))) (.seq (.rg 7 false) .ret)))
theorem bd44 : Tryd.f44.body = some (sk44.code Tryd.f44) := by kernel_rfl
theorem en44 {args : List Value} {w : World} {S : Nat → Prop} {M : List Nat} {C : List Chunk} {G : List (Value × D)} {Rr : Ending → World → Prop} (hl : Nat.ble args.length Tryd.f44.ntmps = true) (hp : Pre w S M C) (hG : AllG w S G) (H : J Tryd.prog Tryd.f44 (retR Tryd.prog Tryd.f44 Rr) Tryd.f44.ntmps [.c sk44] (envOf 0 args) [] [] [(M, w)] ⟨newS S M w, C, G⟩) : Calls Tryd.prog 44 args.toArray w Rr :=
  calls_J Tryd.func44 bd44 rfl hl hp hG H
theorem ep44 {args : List Value} {w : World} {S : Nat → Prop} {G : List (Value × D)} {Rr : Ending → World → Prop} (hl : Nat.ble args.length Tryd.f44.ntmps = true) (hG : AllG w S G) (H : J Tryd.prog Tryd.f44 (retR Tryd.prog Tryd.f44 Rr) Tryd.f44.ntmps [.c sk44] (envOf 0 args) [] [] [([], w)] ⟨newS S [] w, [], G⟩) : Calls Tryd.prog 44 args.toArray w Rr :=
  calls_J Tryd.func44 bd44 rfl hl (Pre.none _ _) hG H
def sk47 : Sk := (.seq (.rg 0 false) (.seq (.seq (.rg 1 false) (.cond (.tmp 10) (.seq (.rg 2 false) .ret) .skip)) (.seq (.seq (.rg 3 false) (.cond (.tmp 13) (.seq (.rg 4 false) .ret) .skip)) (.seq (.rg 5 false) .ret))))
theorem bd47 : Tryd.f47.body = some (sk47.code Tryd.f47) := by kernel_rfl
theorem en47 {args : List Value} {w : World} {S : Nat → Prop} {M : List Nat} {C : List Chunk} {G : List (Value × D)} {Rr : Ending → World → Prop} (hl : Nat.ble args.length Tryd.f47.ntmps = true) (hp : Pre w S M C) (hG : AllG w S G) (H : J Tryd.prog Tryd.f47 (retR Tryd.prog Tryd.f47 Rr) Tryd.f47.ntmps [.c sk47] (envOf 0 args) [] [] [(M, w)] ⟨newS S M w, C, G⟩) : Calls Tryd.prog 47 args.toArray w Rr :=
  calls_J Tryd.func47 bd47 rfl hl hp hG H
theorem ep47 {args : List Value} {w : World} {S : Nat → Prop} {G : List (Value × D)} {Rr : Ending → World → Prop} (hl : Nat.ble args.length Tryd.f47.ntmps = true) (hG : AllG w S G) (H : J Tryd.prog Tryd.f47 (retR Tryd.prog Tryd.f47 Rr) Tryd.f47.ntmps [.c sk47] (envOf 0 args) [] [] [([], w)] ⟨newS S [] w, [], G⟩) : Calls Tryd.prog 47 args.toArray w Rr :=
  calls_J Tryd.func47 bd47 rfl hl (Pre.none _ _) hG H
def sk48 : Sk := (.seq (.rg 0 false) (.seq (.block 0 (.seq (.rg 1 false) (.cond (.tmp 5) (.seq (.rg 2 false) .ret) (.seq (.rg 3 false) (.cond (.tmp 23) (.seq (.rg 4 false) .ret) (.seq (.rg 5 false) (.cond (.tmp 29) (.seq (.rg 6 false) .ret) (.seq (.rg 7 false) (.cond (.tmp 44) (.seq (.rg 8 false) .ret) (.seq (.rg 9 false) (.cond (.tmp 49) (.seq (.rg 10 false) .ret) (.seq (.rg 11 false) (.cond (.tmp 71) (.seq (.rg 12 false) .ret) .skip))))))))))))) (.seq (.rg 13 false) .ret)))
theorem bd48 : Tryd.f48.body = some (sk48.code Tryd.f48) := by kernel_rfl
theorem en48 {args : List Value} {w : World} {S : Nat → Prop} {M : List Nat} {C : List Chunk} {G : List (Value × D)} {Rr : Ending → World → Prop} (hl : Nat.ble args.length Tryd.f48.ntmps = true) (hp : Pre w S M C) (hG : AllG w S G) (H : J Tryd.prog Tryd.f48 (retR Tryd.prog Tryd.f48 Rr) Tryd.f48.ntmps [.c sk48] (envOf 0 args) [] [] [(M, w)] ⟨newS S M w, C, G⟩) : Calls Tryd.prog 48 args.toArray w Rr :=
  calls_J Tryd.func48 bd48 rfl hl hp hG H
theorem ep48 {args : List Value} {w : World} {S : Nat → Prop} {G : List (Value × D)} {Rr : Ending → World → Prop} (hl : Nat.ble args.length Tryd.f48.ntmps = true) (hG : AllG w S G) (H : J Tryd.prog Tryd.f48 (retR Tryd.prog Tryd.f48 Rr) Tryd.f48.ntmps [.c sk48] (envOf 0 args) [] [] [([], w)] ⟨newS S [] w, [], G⟩) : Calls Tryd.prog 48 args.toArray w Rr :=
  calls_J Tryd.func48 bd48 rfl hl (Pre.none _ _) hG H
def sk49 : Sk := (.seq (.rg 0 false) (.seq (.seq (.rg 1 false) (.cond (.tmp 11) (.seq (.rg 2 false) .ret) .skip)) (.seq (.seq (.rg 3 false) (.block 0 (.loop (.seq (.seq (.rg 4 false) (.cond (.tmp 15) .skip (.exit 0))) (.seq (.block 1 (.seq (.rg 6 false) (.cond (.tmp 29) (.seq (.rg 7 false) .ret) .skip))) (.rg 5 false)))))) (.seq (.rg 8 false) .ret))))
theorem bd49 : Tryd.f49.body = some (sk49.code Tryd.f49) := by kernel_rfl
theorem en49 {args : List Value} {w : World} {S : Nat → Prop} {M : List Nat} {C : List Chunk} {G : List (Value × D)} {Rr : Ending → World → Prop} (hl : Nat.ble args.length Tryd.f49.ntmps = true) (hp : Pre w S M C) (hG : AllG w S G) (H : J Tryd.prog Tryd.f49 (retR Tryd.prog Tryd.f49 Rr) Tryd.f49.ntmps [.c sk49] (envOf 0 args) [] [] [(M, w)] ⟨newS S M w, C, G⟩) : Calls Tryd.prog 49 args.toArray w Rr :=
  calls_J Tryd.func49 bd49 rfl hl hp hG H
theorem ep49 {args : List Value} {w : World} {S : Nat → Prop} {G : List (Value × D)} {Rr : Ending → World → Prop} (hl : Nat.ble args.length Tryd.f49.ntmps = true) (hG : AllG w S G) (H : J Tryd.prog Tryd.f49 (retR Tryd.prog Tryd.f49 Rr) Tryd.f49.ntmps [.c sk49] (envOf 0 args) [] [] [([], w)] ⟨newS S [] w, [], G⟩) : Calls Tryd.prog 49 args.toArray w Rr :=
  calls_J Tryd.func49 bd49 rfl hl (Pre.none _ _) hG H
def sk50 : Sk := (.seq (.rg 0 false) (.seq (.seq (.rg 1 false) (.cond (.tmp 23) (.seq (.rg 2 false) .ret) .skip)) (.seq (.rg 3 false) (.seq (.seq (.rg 4 false) (.cond (.tmp 28) (.seq (.rg 5 false) .ret) .skip)) (.seq (.seq (.rg 6 false) (.block 0 (.seq (.rg 8 false) (.cond (.tmp 31) (.seq (.rg 9 false) (.cond (.tmp 45) (.seq (.rg 10 false) .ret) .skip)) (.seq (.rg 11 false) (.cond (.tmp 46) (.seq (.rg 12 false) (.cond (.tmp 60) (.seq (.rg 13 false) .ret) .skip)) (.seq (.rg 14 false) (.cond (.tmp 61) (.seq (.rg 15 false) (.cond (.tmp 76) (.seq (.rg 16 false) .ret) .skip)) (.seq (.rg 7 false) .ret))))))))) (.seq (.seq (.rg 17 false) (.cond (.tmp 96) (.seq (.rg 18 false) .ret) .skip)) (.seq (.seq (.rg 19 false) (.block 1 (.loop (.seq (.seq (.rg 20 false) (.cond (.tmp 101) .skip (.exit 1))) (.seq (.block 2 (.seq (.rg 22 false) (.seq (.rg 23 false) (.cond (.tmp 137) (.seq (.rg 24 false) .ret) .skip)))) (.rg 21 false)))))) (.seq (.rg 25 false) .ret))))))))
theorem bd50 : Tryd.f50.body = some (sk50.code Tryd.f50) := by kernel_rfl
theorem en50 {args : List Value} {w : World} {S : Nat → Prop} {M : List Nat} {C : List Chunk} {G : List (Value × D)} {Rr : Ending → World → Prop} (hl : Nat.ble args.length Tryd.f50.ntmps = true) (hp : Pre w S M C) (hG : AllG w S G) (H : J Tryd.prog Tryd.f50 (retR Tryd.prog Tryd.f50 Rr) Tryd.f50.ntmps [.c sk50] (envOf 0 args) [] [] [(M, w)] ⟨newS S M w, C, G⟩) : Calls Tryd.prog 50 args.toArray w Rr :=
  calls_J Tryd.func50 bd50 rfl hl hp hG H
theorem ep50 {args : List Value} {w : World} {S : Nat → Prop} {G : List (Value × D)} {Rr : Ending → World → Prop} (hl : Nat.ble args.length Tryd.f50.ntmps = true) (hG : AllG w S G) (H : J Tryd.prog Tryd.f50 (retR Tryd.prog Tryd.f50 Rr) Tryd.f50.ntmps [.c sk50] (envOf 0 args) [] [] [([], w)] ⟨newS S [] w, [], G⟩) : Calls Tryd.prog 50 args.toArray w Rr :=
  calls_J Tryd.func50 bd50 rfl hl (Pre.none _ _) hG H
def sk51 : Sk := (.seq (.rg 0 false) (.seq (.rg 1 false) .ret))
theorem bd51 : Tryd.f51.body = some (sk51.code Tryd.f51) := by kernel_rfl
theorem en51 {args : List Value} {w : World} {S : Nat → Prop} {M : List Nat} {C : List Chunk} {G : List (Value × D)} {Rr : Ending → World → Prop} (hl : Nat.ble args.length Tryd.f51.ntmps = true) (hp : Pre w S M C) (hG : AllG w S G) (H : J Tryd.prog Tryd.f51 (retR Tryd.prog Tryd.f51 Rr) Tryd.f51.ntmps [.c sk51] (envOf 0 args) [] [] [(M, w)] ⟨newS S M w, C, G⟩) : Calls Tryd.prog 51 args.toArray w Rr :=
  calls_J Tryd.func51 bd51 rfl hl hp hG H
theorem ep51 {args : List Value} {w : World} {S : Nat → Prop} {G : List (Value × D)} {Rr : Ending → World → Prop} (hl : Nat.ble args.length Tryd.f51.ntmps = true) (hG : AllG w S G) (H : J Tryd.prog Tryd.f51 (retR Tryd.prog Tryd.f51 Rr) Tryd.f51.ntmps [.c sk51] (envOf 0 args) [] [] [([], w)] ⟨newS S [] w, [], G⟩) : Calls Tryd.prog 51 args.toArray w Rr :=
  calls_J Tryd.func51 bd51 rfl hl (Pre.none _ _) hG H
def sk63 : Sk := (.seq (.rg 0 false) (.seq (.rg 1 false) .ret))
theorem bd63 : Tryd.f63.body = some (sk63.code Tryd.f63) := by kernel_rfl
theorem en63 {args : List Value} {w : World} {S : Nat → Prop} {M : List Nat} {C : List Chunk} {G : List (Value × D)} {Rr : Ending → World → Prop} (hl : Nat.ble args.length Tryd.f63.ntmps = true) (hp : Pre w S M C) (hG : AllG w S G) (H : J Tryd.prog Tryd.f63 (retR Tryd.prog Tryd.f63 Rr) Tryd.f63.ntmps [.c sk63] (envOf 0 args) [] [] [(M, w)] ⟨newS S M w, C, G⟩) : Calls Tryd.prog 63 args.toArray w Rr :=
  calls_J Tryd.func63 bd63 rfl hl hp hG H
theorem ep63 {args : List Value} {w : World} {S : Nat → Prop} {G : List (Value × D)} {Rr : Ending → World → Prop} (hl : Nat.ble args.length Tryd.f63.ntmps = true) (hG : AllG w S G) (H : J Tryd.prog Tryd.f63 (retR Tryd.prog Tryd.f63 Rr) Tryd.f63.ntmps [.c sk63] (envOf 0 args) [] [] [([], w)] ⟨newS S [] w, [], G⟩) : Calls Tryd.prog 63 args.toArray w Rr :=
  calls_J Tryd.func63 bd63 rfl hl (Pre.none _ _) hG H
def sk64 : Sk := (.seq (.rg 0 false) (.seq (.rg 1 false) .ret))
theorem bd64 : Tryd.f64.body = some (sk64.code Tryd.f64) := by kernel_rfl
theorem en64 {args : List Value} {w : World} {S : Nat → Prop} {M : List Nat} {C : List Chunk} {G : List (Value × D)} {Rr : Ending → World → Prop} (hl : Nat.ble args.length Tryd.f64.ntmps = true) (hp : Pre w S M C) (hG : AllG w S G) (H : J Tryd.prog Tryd.f64 (retR Tryd.prog Tryd.f64 Rr) Tryd.f64.ntmps [.c sk64] (envOf 0 args) [] [] [(M, w)] ⟨newS S M w, C, G⟩) : Calls Tryd.prog 64 args.toArray w Rr :=
  calls_J Tryd.func64 bd64 rfl hl hp hG H
theorem ep64 {args : List Value} {w : World} {S : Nat → Prop} {G : List (Value × D)} {Rr : Ending → World → Prop} (hl : Nat.ble args.length Tryd.f64.ntmps = true) (hG : AllG w S G) (H : J Tryd.prog Tryd.f64 (retR Tryd.prog Tryd.f64 Rr) Tryd.f64.ntmps [.c sk64] (envOf 0 args) [] [] [([], w)] ⟨newS S [] w, [], G⟩) : Calls Tryd.prog 64 args.toArray w Rr :=
  calls_J Tryd.func64 bd64 rfl hl (Pre.none _ _) hG H
def sk65 : Sk := (.seq (.rg 0 false) (.seq (.rg 1 false) .ret))
theorem bd65 : Tryd.f65.body = some (sk65.code Tryd.f65) := by kernel_rfl
theorem en65 {args : List Value} {w : World} {S : Nat → Prop} {M : List Nat} {C : List Chunk} {G : List (Value × D)} {Rr : Ending → World → Prop} (hl : Nat.ble args.length Tryd.f65.ntmps = true) (hp : Pre w S M C) (hG : AllG w S G) (H : J Tryd.prog Tryd.f65 (retR Tryd.prog Tryd.f65 Rr) Tryd.f65.ntmps [.c sk65] (envOf 0 args) [] [] [(M, w)] ⟨newS S M w, C, G⟩) : Calls Tryd.prog 65 args.toArray w Rr :=
  calls_J Tryd.func65 bd65 rfl hl hp hG H
theorem ep65 {args : List Value} {w : World} {S : Nat → Prop} {G : List (Value × D)} {Rr : Ending → World → Prop} (hl : Nat.ble args.length Tryd.f65.ntmps = true) (hG : AllG w S G) (H : J Tryd.prog Tryd.f65 (retR Tryd.prog Tryd.f65 Rr) Tryd.f65.ntmps [.c sk65] (envOf 0 args) [] [] [([], w)] ⟨newS S [] w, [], G⟩) : Calls Tryd.prog 65 args.toArray w Rr :=
  calls_J Tryd.func65 bd65 rfl hl (Pre.none _ _) hG H
def sk66 : Sk := (.seq (.rg 0 false) (.seq (.seq (.rg 1 false) (.block 0 (.seq (.rg 2 false) (.cond (.tmp 5) (.seq (.rg 3 false) .ret) (.seq (.rg 4 false) (.cond (.tmp 21) (.seq (.rg 5 false) .ret) .skip)))))) (.seq (.rg 6 false) .ret)))
theorem bd66 : Tryd.f66.body = some (sk66.code Tryd.f66) := by kernel_rfl
theorem en66 {args : List Value} {w : World} {S : Nat → Prop} {M : List Nat} {C : List Chunk} {G : List (Value × D)} {Rr : Ending → World → Prop} (hl : Nat.ble args.length Tryd.f66.ntmps = true) (hp : Pre w S M C) (hG : AllG w S G) (H : J Tryd.prog Tryd.f66 (retR Tryd.prog Tryd.f66 Rr) Tryd.f66.ntmps [.c sk66] (envOf 0 args) [] [] [(M, w)] ⟨newS S M w, C, G⟩) : Calls Tryd.prog 66 args.toArray w Rr :=
  calls_J Tryd.func66 bd66 rfl hl hp hG H
theorem ep66 {args : List Value} {w : World} {S : Nat → Prop} {G : List (Value × D)} {Rr : Ending → World → Prop} (hl : Nat.ble args.length Tryd.f66.ntmps = true) (hG : AllG w S G) (H : J Tryd.prog Tryd.f66 (retR Tryd.prog Tryd.f66 Rr) Tryd.f66.ntmps [.c sk66] (envOf 0 args) [] [] [([], w)] ⟨newS S [] w, [], G⟩) : Calls Tryd.prog 66 args.toArray w Rr :=
  calls_J Tryd.func66 bd66 rfl hl (Pre.none _ _) hG H
def sk67 : Sk := (.seq (.rg 0 false) (.seq (.rg 1 false) .ret))
theorem bd67 : Tryd.f67.body = some (sk67.code Tryd.f67) := by kernel_rfl
theorem en67 {args : List Value} {w : World} {S : Nat → Prop} {M : List Nat} {C : List Chunk} {G : List (Value × D)} {Rr : Ending → World → Prop} (hl : Nat.ble args.length Tryd.f67.ntmps = true) (hp : Pre w S M C) (hG : AllG w S G) (H : J Tryd.prog Tryd.f67 (retR Tryd.prog Tryd.f67 Rr) Tryd.f67.ntmps [.c sk67] (envOf 0 args) [] [] [(M, w)] ⟨newS S M w, C, G⟩) : Calls Tryd.prog 67 args.toArray w Rr :=
  calls_J Tryd.func67 bd67 rfl hl hp hG H
theorem ep67 {args : List Value} {w : World} {S : Nat → Prop} {G : List (Value × D)} {Rr : Ending → World → Prop} (hl : Nat.ble args.length Tryd.f67.ntmps = true) (hG : AllG w S G) (H : J Tryd.prog Tryd.f67 (retR Tryd.prog Tryd.f67 Rr) Tryd.f67.ntmps [.c sk67] (envOf 0 args) [] [] [([], w)] ⟨newS S [] w, [], G⟩) : Calls Tryd.prog 67 args.toArray w Rr :=
  calls_J Tryd.func67 bd67 rfl hl (Pre.none _ _) hG H
def sk68 : Sk := (.seq (.rg 0 false) (.seq (.rg 1 false) .ret))
theorem bd68 : Tryd.f68.body = some (sk68.code Tryd.f68) := by kernel_rfl
theorem en68 {args : List Value} {w : World} {S : Nat → Prop} {M : List Nat} {C : List Chunk} {G : List (Value × D)} {Rr : Ending → World → Prop} (hl : Nat.ble args.length Tryd.f68.ntmps = true) (hp : Pre w S M C) (hG : AllG w S G) (H : J Tryd.prog Tryd.f68 (retR Tryd.prog Tryd.f68 Rr) Tryd.f68.ntmps [.c sk68] (envOf 0 args) [] [] [(M, w)] ⟨newS S M w, C, G⟩) : Calls Tryd.prog 68 args.toArray w Rr :=
  calls_J Tryd.func68 bd68 rfl hl hp hG H
theorem ep68 {args : List Value} {w : World} {S : Nat → Prop} {G : List (Value × D)} {Rr : Ending → World → Prop} (hl : Nat.ble args.length Tryd.f68.ntmps = true) (hG : AllG w S G) (H : J Tryd.prog Tryd.f68 (retR Tryd.prog Tryd.f68 Rr) Tryd.f68.ntmps [.c sk68] (envOf 0 args) [] [] [([], w)] ⟨newS S [] w, [], G⟩) : Calls Tryd.prog 68 args.toArray w Rr :=
  calls_J Tryd.func68 bd68 rfl hl (Pre.none _ _) hG H
def sk69 : Sk := (.seq (.rg 0 false) (.seq (.rg 1 false) .ret))
theorem bd69 : Tryd.f69.body = some (sk69.code Tryd.f69) := by kernel_rfl
theorem en69 {args : List Value} {w : World} {S : Nat → Prop} {M : List Nat} {C : List Chunk} {G : List (Value × D)} {Rr : Ending → World → Prop} (hl : Nat.ble args.length Tryd.f69.ntmps = true) (hp : Pre w S M C) (hG : AllG w S G) (H : J Tryd.prog Tryd.f69 (retR Tryd.prog Tryd.f69 Rr) Tryd.f69.ntmps [.c sk69] (envOf 0 args) [] [] [(M, w)] ⟨newS S M w, C, G⟩) : Calls Tryd.prog 69 args.toArray w Rr :=
  calls_J Tryd.func69 bd69 rfl hl hp hG H
theorem ep69 {args : List Value} {w : World} {S : Nat → Prop} {G : List (Value × D)} {Rr : Ending → World → Prop} (hl : Nat.ble args.length Tryd.f69.ntmps = true) (hG : AllG w S G) (H : J Tryd.prog Tryd.f69 (retR Tryd.prog Tryd.f69 Rr) Tryd.f69.ntmps [.c sk69] (envOf 0 args) [] [] [([], w)] ⟨newS S [] w, [], G⟩) : Calls Tryd.prog 69 args.toArray w Rr :=
  calls_J Tryd.func69 bd69 rfl hl (Pre.none _ _) hG H
def sk70 : Sk := (.seq (.rg 0 false) (.seq (.seq (.rg 1 false) (.cond (.tmp 13) (.seq (.rg 2 false) .ret) .skip)) (.seq (.seq (.rg 3 false) (.block 0 (.loop (.seq (.seq (.rg 4 false) (.cond (.tmp 17) .skip (.exit 0))) (.seq (.block 1 (.seq (.rg 6 false) (.seq (.rg 7 false) (.seq (.rg 8 false) (.cond (.tmp 42) (.seq (.rg 9 false) .ret) .skip))))) (.rg 5 false)))))) (.seq (.rg 10 false) .ret))))
theorem bd70 : Tryd.f70.body = some (sk70.code Tryd.f70) := by kernel_rfl
theorem en70 {args : List Value} {w : World} {S : Nat → Prop} {M : List Nat} {C : List Chunk} {G : List (Value × D)} {Rr : Ending → World → Prop} (hl : Nat.ble args.length Tryd.f70.ntmps = true) (hp : Pre w S M C) (hG : AllG w S G) (H : J Tryd.prog Tryd.f70 (retR Tryd.prog Tryd.f70 Rr) Tryd.f70.ntmps [.c sk70] (envOf 0 args) [] [] [(M, w)] ⟨newS S M w, C, G⟩) : Calls Tryd.prog 70 args.toArray w Rr :=
  calls_J Tryd.func70 bd70 rfl hl hp hG H
theorem ep70 {args : List Value} {w : World} {S : Nat → Prop} {G : List (Value × D)} {Rr : Ending → World → Prop} (hl : Nat.ble args.length Tryd.f70.ntmps = true) (hG : AllG w S G) (H : J Tryd.prog Tryd.f70 (retR Tryd.prog Tryd.f70 Rr) Tryd.f70.ntmps [.c sk70] (envOf 0 args) [] [] [([], w)] ⟨newS S [] w, [], G⟩) : Calls Tryd.prog 70 args.toArray w Rr :=
  calls_J Tryd.func70 bd70 rfl hl (Pre.none _ _) hG H
def sk74 : Sk := (.seq (.rg 0 false) (.seq (.seq (.rg 1 false) (.block 0 (.loop (.seq (.rg 2 false) (.seq (.cond (.tmp 9) .skip (.exit 0)) (.seq (.block 1 (.seq (.rg 3 false) (.seq (.rg 4 false) (.cond (.tmp 16) (.seq (.rg 5 false) .ret) .skip)))) (.rg 6 false))))))) (.seq (.rg 7 false) .ret)))
theorem bd74 : Tryd.f74.body = some (sk74.code Tryd.f74) := by kernel_rfl
theorem en74 {args : List Value} {w : World} {S : Nat → Prop} {M : List Nat} {C : List Chunk} {G : List (Value × D)} {Rr : Ending → World → Prop} (hl : Nat.ble args.length Tryd.f74.ntmps = true) (hp : Pre w S M C) (hG : AllG w S G) (H : J Tryd.prog Tryd.f74 (retR Tryd.prog Tryd.f74 Rr) Tryd.f74.ntmps [.c sk74] (envOf 0 args) [] [] [(M, w)] ⟨newS S M w, C, G⟩) : Calls Tryd.prog 74 args.toArray w Rr :=
  calls_J Tryd.func74 bd74 rfl hl hp hG H
theorem ep74 {args : List Value} {w : World} {S : Nat → Prop} {G : List (Value × D)} {Rr : Ending → World → Prop} (hl : Nat.ble args.length Tryd.f74.ntmps = true) (hG : AllG w S G) (H : J Tryd.prog Tryd.f74 (retR Tryd.prog Tryd.f74 Rr) Tryd.f74.ntmps [.c sk74] (envOf 0 args) [] [] [([], w)] ⟨newS S [] w, [], G⟩) : Calls Tryd.prog 74 args.toArray w Rr :=
  calls_J Tryd.func74 bd74 rfl hl (Pre.none _ _) hG H
def sk75 : Sk := (.seq (.rg 0 false) (.seq (.rg 1 false) .ret))
theorem bd75 : Tryd.f75.body = some (sk75.code Tryd.f75) := by kernel_rfl
theorem en75 {args : List Value} {w : World} {S : Nat → Prop} {M : List Nat} {C : List Chunk} {G : List (Value × D)} {Rr : Ending → World → Prop} (hl : Nat.ble args.length Tryd.f75.ntmps = true) (hp : Pre w S M C) (hG : AllG w S G) (H : J Tryd.prog Tryd.f75 (retR Tryd.prog Tryd.f75 Rr) Tryd.f75.ntmps [.c sk75] (envOf 0 args) [] [] [(M, w)] ⟨newS S M w, C, G⟩) : Calls Tryd.prog 75 args.toArray w Rr :=
  calls_J Tryd.func75 bd75 rfl hl hp hG H
theorem ep75 {args : List Value} {w : World} {S : Nat → Prop} {G : List (Value × D)} {Rr : Ending → World → Prop} (hl : Nat.ble args.length Tryd.f75.ntmps = true) (hG : AllG w S G) (H : J Tryd.prog Tryd.f75 (retR Tryd.prog Tryd.f75 Rr) Tryd.f75.ntmps [.c sk75] (envOf 0 args) [] [] [([], w)] ⟨newS S [] w, [], G⟩) : Calls Tryd.prog 75 args.toArray w Rr :=
  calls_J Tryd.func75 bd75 rfl hl (Pre.none _ _) hG H
def sk76 : Sk := (.seq (.rg 0 false) (.seq (.rg 1 false) .ret))
theorem bd76 : Tryd.f76.body = some (sk76.code Tryd.f76) := by kernel_rfl
theorem en76 {args : List Value} {w : World} {S : Nat → Prop} {M : List Nat} {C : List Chunk} {G : List (Value × D)} {Rr : Ending → World → Prop} (hl : Nat.ble args.length Tryd.f76.ntmps = true) (hp : Pre w S M C) (hG : AllG w S G) (H : J Tryd.prog Tryd.f76 (retR Tryd.prog Tryd.f76 Rr) Tryd.f76.ntmps [.c sk76] (envOf 0 args) [] [] [(M, w)] ⟨newS S M w, C, G⟩) : Calls Tryd.prog 76 args.toArray w Rr :=
  calls_J Tryd.func76 bd76 rfl hl hp hG H
theorem ep76 {args : List Value} {w : World} {S : Nat → Prop} {G : List (Value × D)} {Rr : Ending → World → Prop} (hl : Nat.ble args.length Tryd.f76.ntmps = true) (hG : AllG w S G) (H : J Tryd.prog Tryd.f76 (retR Tryd.prog Tryd.f76 Rr) Tryd.f76.ntmps [.c sk76] (envOf 0 args) [] [] [([], w)] ⟨newS S [] w, [], G⟩) : Calls Tryd.prog 76 args.toArray w Rr :=
  calls_J Tryd.func76 bd76 rfl hl (Pre.none _ _) hG H
def sk77 : Sk := (.seq (.rg 0 false) (.seq (.seq (.rg 1 false) (.block 0 (.loop (.seq (.rg 2 false) (.seq (.cond (.tmp 9) .skip (.exit 0)) (.seq (.block 1 (.seq (.rg 3 false) (.seq (.rg 4 false) (.cond (.tmp 16) (.seq (.rg 5 false) .ret) .skip)))) (.rg 6 false))))))) (.seq (.rg 7 false) .ret)))
theorem bd77 : Tryd.f77.body = some (sk77.code Tryd.f77) := by kernel_rfl
theorem en77 {args : List Value} {w : World} {S : Nat → Prop} {M : List Nat} {C : List Chunk} {G : List (Value × D)} {Rr : Ending → World → Prop} (hl : Nat.ble args.length Tryd.f77.ntmps = true) (hp : Pre w S M C) (hG : AllG w S G) (H : J Tryd.prog Tryd.f77 (retR Tryd.prog Tryd.f77 Rr) Tryd.f77.ntmps [.c sk77] (envOf 0 args) [] [] [(M, w)] ⟨newS S M w, C, G⟩) : Calls Tryd.prog 77 args.toArray w Rr :=
  calls_J Tryd.func77 bd77 rfl hl hp hG H
theorem ep77 {args : List Value} {w : World} {S : Nat → Prop} {G : List (Value × D)} {Rr : Ending → World → Prop} (hl : Nat.ble args.length Tryd.f77.ntmps = true) (hG : AllG w S G) (H : J Tryd.prog Tryd.f77 (retR Tryd.prog Tryd.f77 Rr) Tryd.f77.ntmps [.c sk77] (envOf 0 args) [] [] [([], w)] ⟨newS S [] w, [], G⟩) : Calls Tryd.prog 77 args.toArray w Rr :=
  calls_J Tryd.func77 bd77 rfl hl (Pre.none _ _) hG H
def sk78 : Sk := (.seq (.rg 0 false) (.seq (.seq (.rg 1 false) (.block 0 (.loop (.seq (.rg 2 false) (.seq (.cond (.tmp 9) .skip (.exit 0)) (.seq (.block 1 (.seq (.rg 3 false) (.seq (.rg 4 false) (.cond (.tmp 16) (.seq (.rg 5 false) .ret) .skip)))) (.rg 6 false))))))) (.seq (.rg 7 false) .ret)))
theorem bd78 : Tryd.f78.body = some (sk78.code Tryd.f78) := by kernel_rfl
theorem en78 {args : List Value} {w : World} {S : Nat → Prop} {M : List Nat} {C : List Chunk} {G : List (Value × D)} {Rr : Ending → World → Prop} (hl : Nat.ble args.length Tryd.f78.ntmps = true) (hp : Pre w S M C) (hG : AllG w S G) (H : J Tryd.prog Tryd.f78 (retR Tryd.prog Tryd.f78 Rr) Tryd.f78.ntmps [.c sk78] (envOf 0 args) [] [] [(M, w)] ⟨newS S M w, C, G⟩) : Calls Tryd.prog 78 args.toArray w Rr :=
  calls_J Tryd.func78 bd78 rfl hl hp hG H
theorem ep78 {args : List Value} {w : World} {S : Nat → Prop} {G : List (Value × D)} {Rr : Ending → World → Prop} (hl : Nat.ble args.length Tryd.f78.ntmps = true) (hG : AllG w S G) (H : J Tryd.prog Tryd.f78 (retR Tryd.prog Tryd.f78 Rr) Tryd.f78.ntmps [.c sk78] (envOf 0 args) [] [] [([], w)] ⟨newS S [] w, [], G⟩) : Calls Tryd.prog 78 args.toArray w Rr :=
  calls_J Tryd.func78 bd78 rfl hl (Pre.none _ _) hG H
end Go.Proofs.YtgelnbgjabpdbaaDoor
