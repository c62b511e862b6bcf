/- MADE BY PROGRAM (mksk.py): the skeletons of bodies, and each function's entry. -/
import Derived.Test.YtahbmdchcbnolaaDoorProg
import Derived.Test.YtahbmdchcbnolaaDoorTx8
namespace Go.Proofs.YtahbmdchcbnolaaDoor
open Go Go.Sx
theorem mixed : Tryd.prog.follows .mixedOrders = true := by kernel_rfl
def sk3 : Sk := (.seq (.rg 0 false) (.seq (.rg 1 false) (.seq (.seq (.rg 2 false) (.cond (.tmp 26) (.seq (.rg 3 false) .ret) .skip)) (.seq (.rg 4 false) (.seq (.rg 5 false) (.seq (.seq (.rg 6 false) (.cond (.tmp 37) (.seq (.rg 7 false) (.cond (.tmp 45) (.seq (.rg 8 false) .ret) .skip)) (.seq (.rg 9 false) (.seq (.rg 10 false) (.cond (.tmp 68) (.seq (.rg 11 false) .ret) .skip))))) (.seq (.rg 12 false) (.seq (.rg 13 false) (.seq (.seq (.rg 14 false) (.cond (.tmp 80) (.seq (.rg 15 false) .ret) .skip)) (.seq (.rg 16 false) .ret))))))))))
theorem bd3 : Tryd.f3.body = some (sk3.code Tryd.f3) := by kernel_rfl
theorem en3 {args : List Value} {w : World} {S : Nat → Prop} {M : List Nat} {C : List Chunk} {G : List (Value × D)} {Rr : Ending → World → Prop} (hl : Nat.ble args.length Tryd.f3.ntmps = true) (hp : Pre w S M C) (hG : AllG w S G) (H : J Tryd.prog Tryd.f3 (retR Tryd.prog Tryd.f3 Rr) Tryd.f3.ntmps [.c sk3] (envOf 0 args) [] [] [(M, w)] ⟨newS S M w, C, G⟩) : Calls Tryd.prog 3 args.toArray w Rr :=
  calls_J Tryd.func3 bd3 rfl hl hp hG H
theorem ep3 {args : List Value} {w : World} {S : Nat → Prop} {G : List (Value × D)} {Rr : Ending → World → Prop} (hl : Nat.ble args.length Tryd.f3.ntmps = true) (hG : AllG w S G) (H : J Tryd.prog Tryd.f3 (retR Tryd.prog Tryd.f3 Rr) Tryd.f3.ntmps [.c sk3] (envOf 0 args) [] [] [([], w)] ⟨newS S [] w, [], G⟩) : Calls Tryd.prog 3 args.toArray w Rr :=
  calls_J Tryd.func3 bd3 rfl hl (Pre.none _ _) hG H
def sk4 : Sk := (.seq (.rg 0 false) (.seq (.rg 1 false) (.seq (.rg 2 false) .ret)))
theorem bd4 : Tryd.f4.body = some (sk4.code Tryd.f4) := by kernel_rfl
theorem en4 {args : List Value} {w : World} {S : Nat → Prop} {M : List Nat} {C : List Chunk} {G : List (Value × D)} {Rr : Ending → World → Prop} (hl : Nat.ble args.length Tryd.f4.ntmps = true) (hp : Pre w S M C) (hG : AllG w S G) (H : J Tryd.prog Tryd.f4 (retR Tryd.prog Tryd.f4 Rr) Tryd.f4.ntmps [.c sk4] (envOf 0 args) [] [] [(M, w)] ⟨newS S M w, C, G⟩) : Calls Tryd.prog 4 args.toArray w Rr :=
  calls_J Tryd.func4 bd4 rfl hl hp hG H
theorem ep4 {args : List Value} {w : World} {S : Nat → Prop} {G : List (Value × D)} {Rr : Ending → World → Prop} (hl : Nat.ble args.length Tryd.f4.ntmps = true) (hG : AllG w S G) (H : J Tryd.prog Tryd.f4 (retR Tryd.prog Tryd.f4 Rr) Tryd.f4.ntmps [.c sk4] (envOf 0 args) [] [] [([], w)] ⟨newS S [] w, [], G⟩) : Calls Tryd.prog 4 args.toArray w Rr :=
  calls_J Tryd.func4 bd4 rfl hl (Pre.none _ _) hG H
def sk5 : Sk := (.seq (.rg 0 false) (.seq (.seq (.rg 1 false) (.seq (.rg 2 false) (.cond (.tmp 11) (.seq (.rg 3 false) .ret) .skip))) (.seq (.rg 4 false) (.seq (.seq (.rg 5 false) (.block 0 (.loop (.seq (.rg 6 false) (.seq (.cond (.tmp 16) .skip (.exit 0)) (.seq (.block 1 (.seq (.rg 7 false) (.rg 8 false))) (.rg 9 false))))))) (.seq (.rg 10 false) .ret)))))
theorem bd5 : Tryd.f5.body = some (sk5.code Tryd.f5) := by kernel_rfl
theorem en5 {args : List Value} {w : World} {S : Nat → Prop} {M : List Nat} {C : List Chunk} {G : List (Value × D)} {Rr : Ending → World → Prop} (hl : Nat.ble args.length Tryd.f5.ntmps = true) (hp : Pre w S M C) (hG : AllG w S G) (H : J Tryd.prog Tryd.f5 (retR Tryd.prog Tryd.f5 Rr) Tryd.f5.ntmps [.c sk5] (envOf 0 args) [] [] [(M, w)] ⟨newS S M w, C, G⟩) : Calls Tryd.prog 5 args.toArray w Rr :=
  calls_J Tryd.func5 bd5 rfl hl hp hG H
theorem ep5 {args : List Value} {w : World} {S : Nat → Prop} {G : List (Value × D)} {Rr : Ending → World → Prop} (hl : Nat.ble args.length Tryd.f5.ntmps = true) (hG : AllG w S G) (H : J Tryd.prog Tryd.f5 (retR Tryd.prog Tryd.f5 Rr) Tryd.f5.ntmps [.c sk5] (envOf 0 args) [] [] [([], w)] ⟨newS S [] w, [], G⟩) : Calls Tryd.prog 5 args.toArray w Rr :=
  calls_J Tryd.func5 bd5 rfl hl (Pre.none _ _) hG H
def sk6 : Sk := (.seq (.rg 0 false) (.seq (.rg 1 false) (.seq (.rg 2 false) .ret)))
theorem bd6 : Tryd.f6.body = some (sk6.code Tryd.f6) := by kernel_rfl
theorem en6 {args : List Value} {w : World} {S : Nat → Prop} {M : List Nat} {C : List Chunk} {G : List (Value × D)} {Rr : Ending → World → Prop} (hl : Nat.ble args.length Tryd.f6.ntmps = true) (hp : Pre w S M C) (hG : AllG w S G) (H : J Tryd.prog Tryd.f6 (retR Tryd.prog Tryd.f6 Rr) Tryd.f6.ntmps [.c sk6] (envOf 0 args) [] [] [(M, w)] ⟨newS S M w, C, G⟩) : Calls Tryd.prog 6 args.toArray w Rr :=
  calls_J Tryd.func6 bd6 rfl hl hp hG H
theorem ep6 {args : List Value} {w : World} {S : Nat → Prop} {G : List (Value × D)} {Rr : Ending → World → Prop} (hl : Nat.ble args.length Tryd.f6.ntmps = true) (hG : AllG w S G) (H : J Tryd.prog Tryd.f6 (retR Tryd.prog Tryd.f6 Rr) Tryd.f6.ntmps [.c sk6] (envOf 0 args) [] [] [([], w)] ⟨newS S [] w, [], G⟩) : Calls Tryd.prog 6 args.toArray w Rr :=
  calls_J Tryd.func6 bd6 rfl hl (Pre.none _ _) hG H
def sk7 : Sk := (.seq (.rg 0 false) (.seq (.seq (.rg 1 false) (.cond (.tmp 11) (.seq (.rg 2 false) .ret) .skip)) (.seq (.seq (.rg 3 false) (.block 0 (.loop (.seq (.seq (.rg 4 false) (.cond (.tmp 15) .skip (.exit 0))) (.seq (.block 1 (.seq (.rg 6 false) (.cond (.tmp 29) (.seq (.rg 7 false) .ret) .skip))) (.rg 5 false)))))) (.seq (.rg 8 false) .ret))))
theorem bd7 : Tryd.f7.body = some (sk7.code Tryd.f7) := by kernel_rfl
theorem en7 {args : List Value} {w : World} {S : Nat → Prop} {M : List Nat} {C : List Chunk} {G : List (Value × D)} {Rr : Ending → World → Prop} (hl : Nat.ble args.length Tryd.f7.ntmps = true) (hp : Pre w S M C) (hG : AllG w S G) (H : J Tryd.prog Tryd.f7 (retR Tryd.prog Tryd.f7 Rr) Tryd.f7.ntmps [.c sk7] (envOf 0 args) [] [] [(M, w)] ⟨newS S M w, C, G⟩) : Calls Tryd.prog 7 args.toArray w Rr :=
  calls_J Tryd.func7 bd7 rfl hl hp hG H
theorem ep7 {args : List Value} {w : World} {S : Nat → Prop} {G : List (Value × D)} {Rr : Ending → World → Prop} (hl : Nat.ble args.length Tryd.f7.ntmps = true) (hG : AllG w S G) (H : J Tryd.prog Tryd.f7 (retR Tryd.prog Tryd.f7 Rr) Tryd.f7.ntmps [.c sk7] (envOf 0 args) [] [] [([], w)] ⟨newS S [] w, [], G⟩) : Calls Tryd.prog 7 args.toArray w Rr :=
  calls_J Tryd.func7 bd7 rfl hl (Pre.none _ _) hG H
def sk8 : Sk := (.seq (.rg 0 false) (.seq (.rg 1 false) (.seq (.rg 2 false) .ret)))
theorem bd8 : Tryd.f8.body = some (sk8.code Tryd.f8) := by kernel_rfl
theorem en8 {args : List Value} {w : World} {S : Nat → Prop} {M : List Nat} {C : List Chunk} {G : List (Value × D)} {Rr : Ending → World → Prop} (hl : Nat.ble args.length Tryd.f8.ntmps = true) (hp : Pre w S M C) (hG : AllG w S G) (H : J Tryd.prog Tryd.f8 (retR Tryd.prog Tryd.f8 Rr) Tryd.f8.ntmps [.c sk8] (envOf 0 args) [] [] [(M, w)] ⟨newS S M w, C, G⟩) : Calls Tryd.prog 8 args.toArray w Rr :=
  calls_J Tryd.func8 bd8 rfl hl hp hG H
theorem ep8 {args : List Value} {w : World} {S : Nat → Prop} {G : List (Value × D)} {Rr : Ending → World → Prop} (hl : Nat.ble args.length Tryd.f8.ntmps = true) (hG : AllG w S G) (H : J Tryd.prog Tryd.f8 (retR Tryd.prog Tryd.f8 Rr) Tryd.f8.ntmps [.c sk8] (envOf 0 args) [] [] [([], w)] ⟨newS S [] w, [], G⟩) : Calls Tryd.prog 8 args.toArray w Rr :=
  calls_J Tryd.func8 bd8 rfl hl (Pre.none _ _) hG H
def sk10 : Sk := (.seq (.rg 0 false) (.seq (.rg 1 false) (.seq (.seq (.rg 2 false) (.block 0 (.loop (.seq (.seq (.rg 3 false) (.cond (.tmp 8) .skip (.exit 0))) (.seq (.block 1 (.seq (.seq (.rg 5 false) (.cond (.tmp 12) (.rg 6 false) .skip)) (.rg 7 false))) (.rg 4 false)))))) (.seq (.rg 8 false) .ret))))
theorem bd10 : Tryd.f10.body = some (sk10.code Tryd.f10) := by kernel_rfl
theorem en10 {args : List Value} {w : World} {S : Nat → Prop} {M : List Nat} {C : List Chunk} {G : List (Value × D)} {Rr : Ending → World → Prop} (hl : Nat.ble args.length Tryd.f10.ntmps = true) (hp : Pre w S M C) (hG : AllG w S G) (H : J Tryd.prog Tryd.f10 (retR Tryd.prog Tryd.f10 Rr) Tryd.f10.ntmps [.c sk10] (envOf 0 args) [] [] [(M, w)] ⟨newS S M w, C, G⟩) : Calls Tryd.prog 10 args.toArray w Rr :=
  calls_J Tryd.func10 bd10 rfl hl hp hG H
theorem ep10 {args : List Value} {w : World} {S : Nat → Prop} {G : List (Value × D)} {Rr : Ending → World → Prop} (hl : Nat.ble args.length Tryd.f10.ntmps = true) (hG : AllG w S G) (H : J Tryd.prog Tryd.f10 (retR Tryd.prog Tryd.f10 Rr) Tryd.f10.ntmps [.c sk10] (envOf 0 args) [] [] [([], w)] ⟨newS S [] w, [], G⟩) : Calls Tryd.prog 10 args.toArray w Rr :=
  calls_J Tryd.func10 bd10 rfl hl (Pre.none _ _) hG H
def sk11 : Sk := (.seq (.rg 0 false) (.seq (.seq (.rg 1 false) (.cond (.tmp 10) (.seq (.rg 2 false) .ret) .skip)) (.seq (.seq (.rg 3 false) (.block 0 (.loop (.seq (.seq (.rg 4 false) (.cond (.tmp 14) .skip (.exit 0))) (.seq (.block 1 (.seq (.rg 6 true) (.cond (.tmp 25) (.seq (.rg 7 false) .ret) .skip))) (.rg 5 false)))))) (.seq (.rg 8 false) .ret))))
theorem bd11 : Tryd.f11.body = some (sk11.code Tryd.f11) := by kernel_rfl
theorem en11 {args : List Value} {w : World} {S : Nat → Prop} {M : List Nat} {C : List Chunk} {G : List (Value × D)} {Rr : Ending → World → Prop} (hl : Nat.ble args.length Tryd.f11.ntmps = true) (hp : Pre w S M C) (hG : AllG w S G) (H : J Tryd.prog Tryd.f11 (retR Tryd.prog Tryd.f11 Rr) Tryd.f11.ntmps [.c sk11] (envOf 0 args) [] [] [(M, w)] ⟨newS S M w, C, G⟩) : Calls Tryd.prog 11 args.toArray w Rr :=
  calls_J Tryd.func11 bd11 rfl hl hp hG H
theorem ep11 {args : List Value} {w : World} {S : Nat → Prop} {G : List (Value × D)} {Rr : Ending → World → Prop} (hl : Nat.ble args.length Tryd.f11.ntmps = true) (hG : AllG w S G) (H : J Tryd.prog Tryd.f11 (retR Tryd.prog Tryd.f11 Rr) Tryd.f11.ntmps [.c sk11] (envOf 0 args) [] [] [([], w)] ⟨newS S [] w, [], G⟩) : Calls Tryd.prog 11 args.toArray w Rr :=
  calls_J Tryd.func11 bd11 rfl hl (Pre.none _ _) hG H
def sk12 : Sk := (.seq (.rg 0 false) (.seq (.rg 1 false) (.seq (.rg 2 false) (.seq (.rg 3 false) (.seq (.seq (.rg 4 false) (.block 0 (.loop (.seq (.seq (.rg 5 false) (.cond (.tmp 11) .skip (.exit 0))) (.seq (.block 1 (.seq (.seq (.rg 7 false) (.cond (.tmp 29) (.seq (.seq (.rg 8 false) (.cond (.tmp 39) (.seq (.rg 9 false) .ret) .skip)) (.seq (.rg 10 false) (.seq (.rg 11 false) (.exit 1)))) .skip)) (.seq (.seq (.rg 12 false) (.cond (.tmp 63) (.seq (.rg 13 false) .ret) .skip)) (.seq (.rg 14 false) (.seq (.rg 15 false) (.rg 16 false)))))) (.rg 6 false)))))) (.seq (.rg 17 false) .ret))))))
theorem bd12 : Tryd.f12.body = some (sk12.code Tryd.f12) := by kernel_rfl
theorem en12 {args : List Value} {w : World} {S : Nat → Prop} {M : List Nat} {C : List Chunk} {G : List (Value × D)} {Rr : Ending → World → Prop} (hl : Nat.ble args.length Tryd.f12.ntmps = true) (hp : Pre w S M C) (hG : AllG w S G) (H : J Tryd.prog Tryd.f12 (retR Tryd.prog Tryd.f12 Rr) Tryd.f12.ntmps [.c sk12] (envOf 0 args) [] [] [(M, w)] ⟨newS S M w, C, G⟩) : Calls Tryd.prog 12 args.toArray w Rr :=
  calls_J Tryd.func12 bd12 rfl hl hp hG H
theorem ep12 {args : List Value} {w : World} {S : Nat → Prop} {G : List (Value × D)} {Rr : Ending → World → Prop} (hl : Nat.ble args.length Tryd.f12.ntmps = true) (hG : AllG w S G) (H : J Tryd.prog Tryd.f12 (retR Tryd.prog Tryd.f12 Rr) Tryd.f12.ntmps [.c sk12] (envOf 0 args) [] [] [([], w)] ⟨newS S [] w, [], G⟩) : Calls Tryd.prog 12 args.toArray w Rr :=
  calls_J Tryd.func12 bd12 rfl hl (Pre.none _ _) hG H
def sk13 : Sk := (.seq (.rg 0 false) (.seq (.seq (.rg 1 false) (.cond (.tmp 10) (.seq (.rg 2 false) .ret) .skip)) (.seq (.seq (.rg 3 false) (.cond (.tmp 13) (.seq (.rg 4 false) .ret) .skip)) (.seq (.rg 5 false) .ret))))
theorem bd13 : Tryd.f13.body = some (sk13.code Tryd.f13) := by kernel_rfl
theorem en13 {args : List Value} {w : World} {S : Nat → Prop} {M : List Nat} {C : List Chunk} {G : List (Value × D)} {Rr : Ending → World → Prop} (hl : Nat.ble args.length Tryd.f13.ntmps = true) (hp : Pre w S M C) (hG : AllG w S G) (H : J Tryd.prog Tryd.f13 (retR Tryd.prog Tryd.f13 Rr) Tryd.f13.ntmps [.c sk13] (envOf 0 args) [] [] [(M, w)] ⟨newS S M w, C, G⟩) : Calls Tryd.prog 13 args.toArray w Rr :=
  calls_J Tryd.func13 bd13 rfl hl hp hG H
theorem ep13 {args : List Value} {w : World} {S : Nat → Prop} {G : List (Value × D)} {Rr : Ending → World → Prop} (hl : Nat.ble args.length Tryd.f13.ntmps = true) (hG : AllG w S G) (H : J Tryd.prog Tryd.f13 (retR Tryd.prog Tryd.f13 Rr) Tryd.f13.ntmps [.c sk13] (envOf 0 args) [] [] [([], w)] ⟨newS S [] w, [], G⟩) : Calls Tryd.prog 13 args.toArray w Rr :=
  calls_J Tryd.func13 bd13 rfl hl (Pre.none _ _) hG H
def sk16 : Sk := (.seq (.rg 0 false) (.seq (.seq (.rg 1 false) (.cond (.tmp 8) (.seq (.rg 2 false) .ret) .skip)) (.seq (.rg 3 false) (.seq (.rg 4 false) (.seq (.seq (.rg 5 false) (.cond (.tmp 11) (.rg 6 false) .skip)) (.seq (.seq (.rg 7 false) (.block 0 (.loop (.seq (.rg 8 false) (.seq (.cond (.tmp 31) .skip (.exit 0)) (.seq (.block 1 (.seq (.rg 9 false) (.seq (.rg 10 false) (.cond (.tmp 37) (.seq (.rg 11 false) .ret) .skip)))) (.rg 12 false))))))) (.seq (.rg 13 false) .ret)))))))
theorem bd16 : Tryd.f16.body = some (sk16.code Tryd.f16) := by kernel_rfl
theorem en16 {args : List Value} {w : World} {S : Nat → Prop} {M : List Nat} {C : List Chunk} {G : List (Value × D)} {Rr : Ending → World → Prop} (hl : Nat.ble args.length Tryd.f16.ntmps = true) (hp : Pre w S M C) (hG : AllG w S G) (H : J Tryd.prog Tryd.f16 (retR Tryd.prog Tryd.f16 Rr) Tryd.f16.ntmps [.c sk16] (envOf 0 args) [] [] [(M, w)] ⟨newS S M w, C, G⟩) : Calls Tryd.prog 16 args.toArray w Rr :=
  calls_J Tryd.func16 bd16 rfl hl hp hG H
theorem ep16 {args : List Value} {w : World} {S : Nat → Prop} {G : List (Value × D)} {Rr : Ending → World → Prop} (hl : Nat.ble args.length Tryd.f16.ntmps = true) (hG : AllG w S G) (H : J Tryd.prog Tryd.f16 (retR Tryd.prog Tryd.f16 Rr) Tryd.f16.ntmps [.c sk16] (envOf 0 args) [] [] [([], w)] ⟨newS S [] w, [], G⟩) : Calls Tryd.prog 16 args.toArray w Rr :=
  calls_J Tryd.func16 bd16 rfl hl (Pre.none _ _) hG H
def sk19 : Sk := (.seq (.rg 0 false) (.seq (.seq (.rg 1 false) (.cond (.tmp 4) (.seq (.rg 2 false) .ret) .skip)) (.seq (.rg 3 false) .ret)))
theorem bd19 : Tryd.f19.body = some (sk19.code Tryd.f19) := by kernel_rfl
theorem en19 {args : List Value} {w : World} {S : Nat → Prop} {M : List Nat} {C : List Chunk} {G : List (Value × D)} {Rr : Ending → World → Prop} (hl : Nat.ble args.length Tryd.f19.ntmps = true) (hp : Pre w S M C) (hG : AllG w S G) (H : J Tryd.prog Tryd.f19 (retR Tryd.prog Tryd.f19 Rr) Tryd.f19.ntmps [.c sk19] (envOf 0 args) [] [] [(M, w)] ⟨newS S M w, C, G⟩) : Calls Tryd.prog 19 args.toArray w Rr :=
  calls_J Tryd.func19 bd19 rfl hl hp hG H
theorem ep19 {args : List Value} {w : World} {S : Nat → Prop} {G : List (Value × D)} {Rr : Ending → World → Prop} (hl : Nat.ble args.length Tryd.f19.ntmps = true) (hG : AllG w S G) (H : J Tryd.prog Tryd.f19 (retR Tryd.prog Tryd.f19 Rr) Tryd.f19.ntmps [.c sk19] (envOf 0 args) [] [] [([], w)] ⟨newS S [] w, [], G⟩) : Calls Tryd.prog 19 args.toArray w Rr :=
  calls_J Tryd.func19 bd19 rfl hl (Pre.none _ _) hG H
def sk20 : Sk := (.seq (.rg 0 false) (.seq (.rg 1 false) .ret))
theorem bd20 : Tryd.f20.body = some (sk20.code Tryd.f20) := by kernel_rfl
theorem en20 {args : List Value} {w : World} {S : Nat → Prop} {M : List Nat} {C : List Chunk} {G : List (Value × D)} {Rr : Ending → World → Prop} (hl : Nat.ble args.length Tryd.f20.ntmps = true) (hp : Pre w S M C) (hG : AllG w S G) (H : J Tryd.prog Tryd.f20 (retR Tryd.prog Tryd.f20 Rr) Tryd.f20.ntmps [.c sk20] (envOf 0 args) [] [] [(M, w)] ⟨newS S M w, C, G⟩) : Calls Tryd.prog 20 args.toArray w Rr :=
  calls_J Tryd.func20 bd20 rfl hl hp hG H
theorem ep20 {args : List Value} {w : World} {S : Nat → Prop} {G : List (Value × D)} {Rr : Ending → World → Prop} (hl : Nat.ble args.length Tryd.f20.ntmps = true) (hG : AllG w S G) (H : J Tryd.prog Tryd.f20 (retR Tryd.prog Tryd.f20 Rr) Tryd.f20.ntmps [.c sk20] (envOf 0 args) [] [] [([], w)] ⟨newS S [] w, [], G⟩) : Calls Tryd.prog 20 args.toArray w Rr :=
  calls_J Tryd.func20 bd20 rfl hl (Pre.none _ _) hG H
def sk21 : Sk := (.seq (.rg 0 false) (.seq (.rg 1 false) .ret))
theorem bd21 : Tryd.f21.body = some (sk21.code Tryd.f21) := by kernel_rfl
theorem en21 {args : List Value} {w : World} {S : Nat → Prop} {M : List Nat} {C : List Chunk} {G : List (Value × D)} {Rr : Ending → World → Prop} (hl : Nat.ble args.length Tryd.f21.ntmps = true) (hp : Pre w S M C) (hG : AllG w S G) (H : J Tryd.prog Tryd.f21 (retR Tryd.prog Tryd.f21 Rr) Tryd.f21.ntmps [.c sk21] (envOf 0 args) [] [] [(M, w)] ⟨newS S M w, C, G⟩) : Calls Tryd.prog 21 args.toArray w Rr :=
  calls_J Tryd.func21 bd21 rfl hl hp hG H
theorem ep21 {args : List Value} {w : World} {S : Nat → Prop} {G : List (Value × D)} {Rr : Ending → World → Prop} (hl : Nat.ble args.length Tryd.f21.ntmps = true) (hG : AllG w S G) (H : J Tryd.prog Tryd.f21 (retR Tryd.prog Tryd.f21 Rr) Tryd.f21.ntmps [.c sk21] (envOf 0 args) [] [] [([], w)] ⟨newS S [] w, [], G⟩) : Calls Tryd.prog 21 args.toArray w Rr :=
  calls_J Tryd.func21 bd21 rfl hl (Pre.none _ _) hG H
def sk26 : Sk := (.seq (.rg 0 false) (.seq (.seq (.rg 1 false) (.cond (.tmp 9) (.seq (.rg 2 false) .ret) .skip)) (.seq (.seq (.rg 3 false) (.cond (.tmp 11) (.rg 4 false) .skip)) (.seq (.rg 5 false) (.seq (.rg 6 false) (.seq (.seq (.rg 7 false) (.cond (.tmp 23) (.rg 8 false) .skip)) (.seq (.rg 9 false) (.seq (.seq (.rg 10 false) (.cond (.tmp 35) (.rg 11 false) .skip)) (.seq (.rg 12 false) .ret)))))))))
theorem bd26 : Tryd.f26.body = some (sk26.code Tryd.f26) := by kernel_rfl
theorem en26 {args : List Value} {w : World} {S : Nat → Prop} {M : List Nat} {C : List Chunk} {G : List (Value × D)} {Rr : Ending → World → Prop} (hl : Nat.ble args.length Tryd.f26.ntmps = true) (hp : Pre w S M C) (hG : AllG w S G) (H : J Tryd.prog Tryd.f26 (retR Tryd.prog Tryd.f26 Rr) Tryd.f26.ntmps [.c sk26] (envOf 0 args) [] [] [(M, w)] ⟨newS S M w, C, G⟩) : Calls Tryd.prog 26 args.toArray w Rr :=
  calls_J Tryd.func26 bd26 rfl hl hp hG H
theorem ep26 {args : List Value} {w : World} {S : Nat → Prop} {G : List (Value × D)} {Rr : Ending → World → Prop} (hl : Nat.ble args.length Tryd.f26.ntmps = true) (hG : AllG w S G) (H : J Tryd.prog Tryd.f26 (retR Tryd.prog Tryd.f26 Rr) Tryd.f26.ntmps [.c sk26] (envOf 0 args) [] [] [([], w)] ⟨newS S [] w, [], G⟩) : Calls Tryd.prog 26 args.toArray w Rr :=
  calls_J Tryd.func26 bd26 rfl hl (Pre.none _ _) hG H
def sk27 : Sk := (.seq (.rg 0 false) (.seq (.seq (.rg 1 false) (.cond (.tmp 11) (.seq (.rg 2 false) .ret) .skip)) (.seq (.rg 3 false) (.seq (.rg 4 false) .ret))))
theorem bd27 : Tryd.f27.body = some (sk27.code Tryd.f27) := by kernel_rfl
theorem en27 {args : List Value} {w : World} {S : Nat → Prop} {M : List Nat} {C : List Chunk} {G : List (Value × D)} {Rr : Ending → World → Prop} (hl : Nat.ble args.length Tryd.f27.ntmps = true) (hp : Pre w S M C) (hG : AllG w S G) (H : J Tryd.prog Tryd.f27 (retR Tryd.prog Tryd.f27 Rr) Tryd.f27.ntmps [.c sk27] (envOf 0 args) [] [] [(M, w)] ⟨newS S M w, C, G⟩) : Calls Tryd.prog 27 args.toArray w Rr :=
  calls_J Tryd.func27 bd27 rfl hl hp hG H
theorem ep27 {args : List Value} {w : World} {S : Nat → Prop} {G : List (Value × D)} {Rr : Ending → World → Prop} (hl : Nat.ble args.length Tryd.f27.ntmps = true) (hG : AllG w S G) (H : J Tryd.prog Tryd.f27 (retR Tryd.prog Tryd.f27 Rr) Tryd.f27.ntmps [.c sk27] (envOf 0 args) [] [] [([], w)] ⟨newS S [] w, [], G⟩) : Calls Tryd.prog 27 args.toArray w Rr :=
  calls_J Tryd.func27 bd27 rfl hl (Pre.none _ _) hG H
def sk31 : Sk := (.seq (.rg 0 false) (.seq (.seq (.rg 1 false) (.cond (.tmp 4) (.seq (.rg 2 false) .ret) .skip)) (.seq (.rg 3 false) .ret)))
theorem bd31 : Tryd.f31.body = some (sk31.code Tryd.f31) := by kernel_rfl
theorem en31 {args : List Value} {w : World} {S : Nat → Prop} {M : List Nat} {C : List Chunk} {G : List (Value × D)} {Rr : Ending → World → Prop} (hl : Nat.ble args.length Tryd.f31.ntmps = true) (hp : Pre w S M C) (hG : AllG w S G) (H : J Tryd.prog Tryd.f31 (retR Tryd.prog Tryd.f31 Rr) Tryd.f31.ntmps [.c sk31] (envOf 0 args) [] [] [(M, w)] ⟨newS S M w, C, G⟩) : Calls Tryd.prog 31 args.toArray w Rr :=
  calls_J Tryd.func31 bd31 rfl hl hp hG H
theorem ep31 {args : List Value} {w : World} {S : Nat → Prop} {G : List (Value × D)} {Rr : Ending → World → Prop} (hl : Nat.ble args.length Tryd.f31.ntmps = true) (hG : AllG w S G) (H : J Tryd.prog Tryd.f31 (retR Tryd.prog Tryd.f31 Rr) Tryd.f31.ntmps [.c sk31] (envOf 0 args) [] [] [([], w)] ⟨newS S [] w, [], G⟩) : Calls Tryd.prog 31 args.toArray w Rr :=
  calls_J Tryd.func31 bd31 rfl hl (Pre.none _ _) hG H
def sk32 : Sk := (.seq (.rg 0 false) (.seq (.seq (.rg 1 false) (.block 0 (.loop (.seq (.rg 2 false) (.seq (.cond (.tmp 9) .skip (.exit 0)) (.seq (.block 1 (.seq (.rg 3 false) (.seq (.rg 4 false) (.cond (.tmp 16) (.seq (.rg 5 false) .ret) .skip)))) (.rg 6 false))))))) (.seq (.rg 7 false) .ret)))
theorem bd32 : Tryd.f32.body = some (sk32.code Tryd.f32) := by kernel_rfl
theorem en32 {args : List Value} {w : World} {S : Nat → Prop} {M : List Nat} {C : List Chunk} {G : List (Value × D)} {Rr : Ending → World → Prop} (hl : Nat.ble args.length Tryd.f32.ntmps = true) (hp : Pre w S M C) (hG : AllG w S G) (H : J Tryd.prog Tryd.f32 (retR Tryd.prog Tryd.f32 Rr) Tryd.f32.ntmps [.c sk32] (envOf 0 args) [] [] [(M, w)] ⟨newS S M w, C, G⟩) : Calls Tryd.prog 32 args.toArray w Rr :=
  calls_J Tryd.func32 bd32 rfl hl hp hG H
theorem ep32 {args : List Value} {w : World} {S : Nat → Prop} {G : List (Value × D)} {Rr : Ending → World → Prop} (hl : Nat.ble args.length Tryd.f32.ntmps = true) (hG : AllG w S G) (H : J Tryd.prog Tryd.f32 (retR Tryd.prog Tryd.f32 Rr) Tryd.f32.ntmps [.c sk32] (envOf 0 args) [] [] [([], w)] ⟨newS S [] w, [], G⟩) : Calls Tryd.prog 32 args.toArray w Rr :=
  calls_J Tryd.func32 bd32 rfl hl (Pre.none _ _) hG H
def sk39 : Sk := (.seq (.rg 0 false) (.block 0 (.loop (.block 1 (.seq (.seq (.rg 1 false) (.cond (.tmp 19) (.seq (.rg 2 false) (.seq (.rg 3 false) .ret)) .skip)) (.seq (.seq (.rg 4 false) (.seq (.rg 5 false) (.cond (.tmp 35) (.seq (.rg 6 false) .ret) .skip))) (.seq (.rg 7 false) (.block 2 (.seq (.rg 10 false) (.cond (.tmp 38) (.seq (.rg 11 false) (.seq (.rg 12 false) (.seq (.rg 13 false) (.cond (.tmp 43) (.seq (.rg 14 false) .ret) .skip)))) (.seq (.rg 15 false) (.cond (.tmp 45) (.seq (.rg 16 false) (.seq (.seq (.rg 17 false) (.block 3 (.loop (.seq (.rg 18 false) (.seq (.cond (.tmp 51) .skip (.exit 3)) (.seq (.block 4 (.seq (.rg 19 false) (.seq (.seq (.rg 20 false) (.cond (.tmp 55) (.exit 4) .skip)) (.seq (.rg 21 false) (.cond (.tmp 60) (.seq (.rg 22 false) .ret) .skip))))) (.rg 23 false))))))) (.seq (.rg 24 false) .ret))) (.seq (.rg 8 false) (.seq (.rg 9 false) .ret))))))))))))))
theorem bd39 : Tryd.f39.body = some (sk39.code Tryd.f39) := by kernel_rfl
theorem en39 {args : List Value} {w : World} {S : Nat → Prop} {M : List Nat} {C : List Chunk} {G : List (Value × D)} {Rr : Ending → World → Prop} (hl : Nat.ble args.length Tryd.f39.ntmps = true) (hp : Pre w S M C) (hG : AllG w S G) (H : J Tryd.prog Tryd.f39 (retR Tryd.prog Tryd.f39 Rr) Tryd.f39.ntmps [.c sk39] (envOf 0 args) [] [] [(M, w)] ⟨newS S M w, C, G⟩) : Calls Tryd.prog 39 args.toArray w Rr :=
  calls_J Tryd.func39 bd39 rfl hl hp hG H
theorem ep39 {args : List Value} {w : World} {S : Nat → Prop} {G : List (Value × D)} {Rr : Ending → World → Prop} (hl : Nat.ble args.length Tryd.f39.ntmps = true) (hG : AllG w S G) (H : J Tryd.prog Tryd.f39 (retR Tryd.prog Tryd.f39 Rr) Tryd.f39.ntmps [.c sk39] (envOf 0 args) [] [] [([], w)] ⟨newS S [] w, [], G⟩) : Calls Tryd.prog 39 args.toArray w Rr :=
  calls_J Tryd.func39 bd39 rfl hl (Pre.none _ _) hG H
def sk41 : Sk := (.seq (.rg 0 false) (.block 0 (.loop (.block 1 (.seq (.seq (.rg 1 false) (.cond (.tmp 19) (.seq (.rg 2 false) .ret) .skip)) (.seq (.seq (.rg 3 false) (.seq (.rg 4 false) (.cond (.tmp 30) (.seq (.rg 5 false) .ret) .skip))) (.seq (.rg 6 false) (.block 2 (.seq (.rg 9 false) (.cond (.tmp 33) (.seq (.rg 10 false) (.seq (.rg 11 false) (.seq (.rg 12 false) (.cond (.tmp 38) (.seq (.rg 13 false) .ret) .skip)))) (.seq (.rg 14 false) (.cond (.tmp 40) (.seq (.rg 15 false) (.seq (.seq (.rg 16 false) (.block 3 (.loop (.seq (.rg 17 false) (.seq (.cond (.tmp 46) .skip (.exit 3)) (.seq (.block 4 (.seq (.rg 18 false) (.seq (.rg 19 false) (.cond (.tmp 52) (.seq (.rg 20 false) .ret) .skip)))) (.rg 21 false))))))) (.seq (.rg 22 false) .ret))) (.seq (.rg 7 false) (.seq (.rg 8 false) .ret))))))))))))))
theorem bd41 : Tryd.f41.body = some (sk41.code Tryd.f41) := by kernel_rfl
theorem en41 {args : List Value} {w : World} {S : Nat → Prop} {M : List Nat} {C : List Chunk} {G : List (Value × D)} {Rr : Ending → World → Prop} (hl : Nat.ble args.length Tryd.f41.ntmps = true) (hp : Pre w S M C) (hG : AllG w S G) (H : J Tryd.prog Tryd.f41 (retR Tryd.prog Tryd.f41 Rr) Tryd.f41.ntmps [.c sk41] (envOf 0 args) [] [] [(M, w)] ⟨newS S M w, C, G⟩) : Calls Tryd.prog 41 args.toArray w Rr :=
  calls_J Tryd.func41 bd41 rfl hl hp hG H
theorem ep41 {args : List Value} {w : World} {S : Nat → Prop} {G : List (Value × D)} {Rr : Ending → World → Prop} (hl : Nat.ble args.length Tryd.f41.ntmps = true) (hG : AllG w S G) (H : J Tryd.prog Tryd.f41 (retR Tryd.prog Tryd.f41 Rr) Tryd.f41.ntmps [.c sk41] (envOf 0 args) [] [] [([], w)] ⟨newS S [] w, [], G⟩) : Calls Tryd.prog 41 args.toArray w Rr :=
  calls_J Tryd.func41 bd41 rfl hl (Pre.none _ _) hG H
def sk50 : Sk := (.seq (.rg 0 false) (.seq (.rg 1 false) .ret))
theorem bd50 : Tryd.f50.body = some (sk50.code Tryd.f50) := by kernel_rfl
theorem en50 {args : List Value} {w : World} {S : Nat → Prop} {M : List Nat} {C : List Chunk} {G : List (Value × D)} {Rr : Ending → World → Prop} (hl : Nat.ble args.length Tryd.f50.ntmps = true) (hp : Pre w S M C) (hG : AllG w S G) (H : J Tryd.prog Tryd.f50 (retR Tryd.prog Tryd.f50 Rr) Tryd.f50.ntmps [.c sk50] (envOf 0 args) [] [] [(M, w)] ⟨newS S M w, C, G⟩) : Calls Tryd.prog 50 args.toArray w Rr :=
  calls_J Tryd.func50 bd50 rfl hl hp hG H
theorem ep50 {args : List Value} {w : World} {S : Nat → Prop} {G : List (Value × D)} {Rr : Ending → World → Prop} (hl : Nat.ble args.length Tryd.f50.ntmps = true) (hG : AllG w S G) (H : J Tryd.prog Tryd.f50 (retR Tryd.prog Tryd.f50 Rr) Tryd.f50.ntmps [.c sk50] (envOf 0 args) [] [] [([], w)] ⟨newS S [] w, [], G⟩) : Calls Tryd.prog 50 args.toArray w Rr :=
  calls_J Tryd.func50 bd50 rfl hl (Pre.none _ _) hG H
end Go.Proofs.YtahbmdchcbnolaaDoor
