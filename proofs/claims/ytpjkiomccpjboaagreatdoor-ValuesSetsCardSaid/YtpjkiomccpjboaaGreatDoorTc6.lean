/- Part 6 of the texts of a claim: Worth Sets Tx9. -/
import Derived.Stop.LaidErr
import Derived.Below
import Derived.Carry
import Derived.ChangeSame
import Derived.OpenShut
import Derived.ChangeSlices
import Derived.Test.YtpjkiomccpjboaaGreatDoorTc5
section
namespace Go.Proofs.YtpjkiomccpjboaaGreatDoor
open Go Go.Sx
abbrev keyK : ByteArray := ByteArray.mk #[107]
abbrev opK : OpT := ⟨0, ByteArray.mk #[107], 1, ByteArray.mk #[120], 0, false, []⟩
abbrev comK : ComT := ⟨[1], 0, [opK]⟩
theorem faultK : valFault keyK [comK] = ⟨0, -1⟩ := rfl
theorem opsK : opsOf keyK [comK] = [⟨opK, ⟨0, 1, 0⟩, 1⟩] := by
  simp [opsOf, sortDone, opsRaw, allDone, firsts, doneOf, dotOf, wsum]
theorem valK : Sx.valOf keyK [comK] = ⟨1, ByteArray.mk #[120], 0, []⟩ := by
  simp [Sx.valOf, opsK, kindOf, ofKey, kindL, lastText]
theorem worth {w : World} {S : Nat → Prop} {er : Nat → Addr} {eb : Nat → Array Value × TypeId} (hC : Rep w S .nilIface (dC er eb)) :
    Calls Tryz.prog 11 #[] w fun e w' => Ret [] w S w' e (.bool true) [] [] := by
  refine ep11 (args := []) (G := [(_, dC er eb)]) (by kernel_rfl) (.cons hC (.nil _ _)) ?_
  refine J_seq ?_
  refine J_reg mixed [.rd 0 [] 0 0] [] [0] (E1 := fun _ => [(0, .val (.bool false))]) (h1 := fun _ => []) (p1 := fun _ => []) (W1 := []) (by kernel_rfl) (fun _ => by kernel_rfl) (fun _ => trivial) (fun _ => ?_)
  refine J_seq ?_
  refine JR_begin mixed [(0, false), (1, true), (2, false), (3, true), (4, false), (5, false), (6, true), (7, true), (8, true), (9, false), (10, false), (11, true)] [] (by kernel_rfl) (by kernel_rfl) ?_
  refine JR_run (id := 1) (rest := [(5, false), (6, true), (7, true), (8, true), (9, false), (10, false), (11, true)]) [.wr 0 [] 0, .rd 1 [] 0 0, .wr 2 [] 0, .rd 3 [] 0 0, .wr 4 [] 0] [0, 8] (E1 := fun nu1 => [(0, .val (.bool false)), (8, .val (.slice (some (⟨nu1 2, 0, none⟩)) 1 1))]) (h1 := fun nu1 => [(nu1 0, .cells #[.int .i64 1] 3 (0, 0)), (nu1 1, .cells #[.int .i64 0, .string (ByteArray.mk #[107]), .int .i64 1, .string (ByteArray.mk #[120]), .int .i64 0, .bool false, .slice none 0 0] 24 (0, 0)), (nu1 2, .cells #[.slice (some (⟨nu1 0, 0, none⟩)) 1 1, .int .i64 0, .slice (some (⟨nu1 1, 0, none⟩)) 1 1] 28 (0, 0))]) (p1 := fun nu1 => []) (W1 := []) (fun _ => by kernel_rfl) (fun _ => trivial) (fun nu1 => ?_)
  refine JR_data (size := 1) 0 eI [(1 : Int)] 1 rfl (by kernel_rfl) (by decide) (by intro x _; rfl) (by simp) ⟨.inl ⟨rfl, rfl⟩, trivial⟩ ?_
  refine JR_data (size := 7) 0 eOp [opK] 1 rfl (by kernel_rfl) (by decide) (by intro x _; rfl) (by simp) ⟨.inl ⟨rfl, rfl⟩, ⟨.inl ⟨rfl, rfl⟩, ⟨.inl ⟨rfl, rfl⟩, ⟨.inl ⟨rfl, rfl⟩, ⟨.inl ⟨rfl, rfl⟩, ⟨.inl ⟨rfl, rfl⟩, ⟨.inr (.inr ⟨_, _, _, rfl, rfl⟩), trivial⟩⟩⟩⟩⟩⟩⟩ ?_
  refine JR_data (size := 3) 0 eCom [comK] 1 rfl (by kernel_rfl) (by decide) (by intro x _; rfl) (by simp) ⟨.inr (.inl (List.mem_of_getElem? (i := 1) rfl)), ⟨.inl ⟨rfl, rfl⟩, ⟨.inr (.inl (List.mem_of_getElem? (i := 2) rfl)), trivial⟩⟩⟩ ?_
  refine JR_callp [] 21 #[.string (ByteArray.mk #[107]), .slice (some (⟨nu1 2, 0, none⟩)) 1 1] (some 9) (by kernel_rfl) (fun w S hG => ?_)
  refine (vOfR (l := [comK]) (hG.at 0 rfl) (hG.at 3 rfl) (by simp) (by simp) (by simp) (by rw [opsK]; decide)).mono ?_
  rintro e1 w1 (⟨hc, _⟩ | ⟨hc, hR⟩)
  · exact absurd (by rw [faultK]) hc
  refine ⟨_, _, _, hR, ?_⟩
  rw [valK]
  try simp only [List.cons_append, List.nil_append, List.append_nil]
  refine JR_run (id := 1) (rest := []) [.rd 6 [] 0 0, .rd 7 [] 0 0, .rd 8 [] 0 0, .wr 9 [] 0, .wr 10 [.o 0 none, .o 0 none, .o 0 none, .o 0 none] 0, .rd 11 [] 0 0] [0, 1, 2] (E1 := fun nu2 => [(0, .val (.bool false)), (1, .val (.pointer (some (⟨nu2 0, 0, none⟩)))), (2, .val (.nilIface))]) (h1 := fun nu2 => [(nu2 0, .cells #[.int .i64 1, .string (ByteArray.mk #[120]), .int .i64 0, .slice none 0 0] 47 (0, 0))]) (p1 := fun nu2 => []) (W1 := []) (fun _ => by kernel_rfl) (fun _ => trivial) (fun nu2 => ?_)
  refine JR_end ?_
  refine J_seq ?_
  refine J_reg mixed [.rd 0 [] 0 0, .rd 1 [] 0 0, .rd 2 [] 0 0, .rd 3 [] 0 0, .rd 4 [.o 0 none] 0 0, .rd 5 [] 0 0, .rd 6 [] 0 0, .rd 7 [] 0 0, .rd 8 [] 0 0, .rd 9 [.o 0 none] 0 0, .rd 10 [] 0 0, .rd 11 [] 0 0, .rd 12 [] 0 0, .rd 13 [] 0 0, .rd 14 [.o 0 none] 0 0, .rd 15 [] 0 0, .rd 16 [] 0 0, .rd 17 [] 0 0, .rd 18 [] 0 0] [] [0] (E1 := fun _ => [(0, .val (.bool true))]) (h1 := fun _ => [(nu2 0, .cells #[.int .i64 1, .string (ByteArray.mk #[120]), .int .i64 0, .slice none 0 0] 47 (0, 0))]) (p1 := fun _ => []) (W1 := []) (by kernel_rfl) (fun _ => by kernel_rfl) (fun _ => trivial) (fun _ => ?_)
  refine J_return [[]] (.bool true) (by kernel_rfl) (fun a w s => ?_)
  exact s.ret (by simp) [] [] rfl rfl
end Go.Proofs.YtpjkiomccpjboaaGreatDoor
end
section
namespace Go.Proofs.YtpjkiomccpjboaaGreatDoor
open Go Go.Sx
def cellsI (l : List Int) : Array Value := (l.map fun z => Value.int .i64 z).toArray
theorem cellsI_size (l : List Int) : (cellsI l).size = l.length := by simp [cellsI]
theorem set_ints (l : List Int) (k : Nat) (x : Int) : (cellsI l).setIfInBounds k (.int .i64 x) = cellsI (l.set k x) := by
  unfold cellsI
  rw [List.setIfInBounds_toArray, List.map_set]
theorem rowG_ints {G : List (Value × D)} : ∀ l : List Int, RowG G (cellsI l).toList (l.map eI).flatten
  | [] => trivial
  | _ :: l => ⟨.inl ⟨rfl, rfl⟩, by have := rowG_ints (G := G) l; simpa [cellsI] using this⟩
def onesZ (k : Nat) : List Int := List.replicate k 1 ++ List.replicate (6 - k) 0
theorem onesZ_len {k : Nat} (h : k ≤ 6) : (onesZ k).length = 6 := by simp [onesZ]; omega
theorem onesZ_step {k : Nat} (h : k < 6) : (onesZ k).set k 1 = onesZ (k + 1) := by
  have : ∀ i : Fin 6, (onesZ i.1).set i.1 1 = onesZ (i.1 + 1) := by decide
  exact this ⟨k, h⟩
structure SetI where
  i : Int
  a : Option Addr
  k : Nat
  c : Nat
  b : Option Addr
  m : Nat
  d : Nat
set_option maxHeartbeats 4000000 in
theorem valuesSets {w : World} {S : Nat → Prop} {er : Nat → Addr} {eb : Nat → Array Value × TypeId} {text : ByteArray} {adds seen : Int} (hC : Rep w S .nilIface (dC er eb)) :
    Calls Tryz.prog 7 #[.string text, .int .i64 adds, .int .i64 seen] w fun e w' => Ret [] (zero w) S w' e (.bool true) [] [] := by
  refine ep7 (args := [.string text, .int .i64 adds, .int .i64 seen]) (S := S) (G := [(_, dC er eb)]) (by kernel_rfl) (.cons hC (.nil _ _)) ?_
  refine J_zero ?_
  refine J_seq ?_
  refine J_reg mixed [.rd 0 [] 0 0] [] [0, 1, 2, 6] (E1 := fun _ => [(0, .val (.string text)), (1, .val (.int .i64 adds)), (2, .val (.int .i64 seen)), (6, .val (.bool false))]) (h1 := fun _ => []) (p1 := fun _ => []) (W1 := []) (by kernel_rfl) (fun _ => by kernel_rfl) (fun _ => trivial) (fun _ => ?_)
  refine J_seq ?_
  refine JR_begin mixed [(0, false), (1, true)] [] (by kernel_rfl) (by kernel_rfl) ?_
  refine JR_callp [] 11 #[] (some 18) (by kernel_rfl) (fun w S hG => ?_)
  refine (worth (hG.at 0 rfl)).mono ?_
  rintro e1 w1 hR
  refine ⟨_, _, _, hR, ?_⟩
  by_cases ha1 : 1 ≤ adds
  case neg =>
    try simp only [List.cons_append, List.nil_append, List.append_nil]
    refine JR_run (id := 1) (rest := []) [.rd 1 [] 0 0] [0, 1, 2, 6, 7] (E1 := fun _ => [(0, .val (.string text)), (1, .val (.int .i64 adds)), (2, .val (.int .i64 seen)), (6, .val (.bool false)), (7, .val (.bool true))]) (h1 := fun _ => []) (p1 := fun _ => []) (W1 := []) (fun _ => by kernel_rfl) (fun _ => trivial) (fun _ => ?_)
    refine JR_end ?_
    refine J_seq ?_
    refine J_seq ?_
    refine J_reg mixed [.rd 0 [] 0 0, .rd 1 [] 0 0, .rd 2 [] 0 0, .rd 3 [] 0 0, .rd 4 [] 0 6, .rd 5 [] 0 0, .rd 6 [] 0 0, .rd 7 [] 1 0, .rd 8 [] 1 0, .rd 9 [] 0 0, .rd 10 [] 0 0, .rd 11 [] 1 0, .rd 12 [] 1 0, .rd 13 [] 0 0, .rd 14 [] 0 0, .rd 15 [] 1 0, .rd 16 [] 1 0, .rd 17 [] 1 0, .rd 18 [] 0 0, .rd 19 [] 0 0, .rd 20 [] 1 0, .rd 21 [] 1 0, .rd 22 [] 1 0, .rd 23 [] 0 0] [] [0, 1, 2, 6, 7, 42] (E1 := fun _ => [(0, .val (.string text)), (1, .val (.int .i64 adds)), (2, .val (.int .i64 seen)), (6, .val (.bool false)), (7, .val (.bool true)), (42, .val (.bool true))]) (h1 := fun _ => []) (p1 := fun _ => [decide (adds < (1 : Int)) = true]) (W1 := []) (by kernel_rfl) (fun _ => by kernel_rfl) (fun _ => ⟨by simp; omega, trivial⟩) (fun _ => ?_)
    refine J_cond_t (by kernel_rfl) (by kernel_rfl) ?_
    refine J_seq ?_
    refine J_reg mixed [.rd 0 [] 0 0, .rd 1 [] 0 0] [] [0, 1, 2, 6] (E1 := fun _ => [(0, .val (.string text)), (1, .val (.int .i64 adds)), (2, .val (.int .i64 seen)), (6, .val (.bool true))]) (h1 := fun _ => []) (p1 := fun _ => []) (W1 := []) (by kernel_rfl) (fun _ => by kernel_rfl) (fun _ => trivial) (fun _ => ?_)
    refine J_return [[]] (.bool true) (by kernel_rfl) (fun a w s => ?_)
    exact s.retz (by simp) [] [] rfl rfl
  by_cases ha6 : adds ≤ 6
  case neg =>
    try simp only [List.cons_append, List.nil_append, List.append_nil]
    refine JR_run (id := 1) (rest := []) [.rd 1 [] 0 0] [0, 1, 2, 6, 7] (E1 := fun _ => [(0, .val (.string text)), (1, .val (.int .i64 adds)), (2, .val (.int .i64 seen)), (6, .val (.bool false)), (7, .val (.bool true))]) (h1 := fun _ => []) (p1 := fun _ => []) (W1 := []) (fun _ => by kernel_rfl) (fun _ => trivial) (fun _ => ?_)
    refine JR_end ?_
    refine J_seq ?_
    refine J_seq ?_
    refine J_reg mixed [.rd 0 [] 0 0, .rd 1 [] 0 0, .rd 2 [] 0 0, .rd 3 [] 0 0, .rd 4 [] 0 7, .rd 5 [] 0 0, .rd 6 [] 0 0, .rd 7 [] 0 0, .rd 8 [] 0 6, .rd 9 [] 0 0, .rd 10 [] 0 0, .rd 11 [] 1 0, .rd 12 [] 1 0, .rd 13 [] 0 0, .rd 14 [] 0 0, .rd 15 [] 1 0, .rd 16 [] 1 0, .rd 17 [] 1 0, .rd 18 [] 0 0, .rd 19 [] 0 0, .rd 20 [] 1 0, .rd 21 [] 1 0, .rd 22 [] 1 0, .rd 23 [] 0 0] [] [0, 1, 2, 6, 7, 42] (E1 := fun _ => [(0, .val (.string text)), (1, .val (.int .i64 adds)), (2, .val (.int .i64 seen)), (6, .val (.bool false)), (7, .val (.bool true)), (42, .val (.bool true))]) (h1 := fun _ => []) (p1 := fun _ => [decide (adds < (1 : Int)) = false, decide (adds > (6 : Int)) = true]) (W1 := []) (by kernel_rfl) (fun _ => by kernel_rfl) (fun _ => ⟨by simp; omega, by simp; omega, trivial⟩) (fun _ => ?_)
    refine J_cond_t (by kernel_rfl) (by kernel_rfl) ?_
    refine J_seq ?_
    refine J_reg mixed [.rd 0 [] 0 0, .rd 1 [] 0 0] [] [0, 1, 2, 6] (E1 := fun _ => [(0, .val (.string text)), (1, .val (.int .i64 adds)), (2, .val (.int .i64 seen)), (6, .val (.bool true))]) (h1 := fun _ => []) (p1 := fun _ => []) (W1 := []) (by kernel_rfl) (fun _ => by kernel_rfl) (fun _ => trivial) (fun _ => ?_)
    refine J_return [[]] (.bool true) (by kernel_rfl) (fun a w s => ?_)
    exact s.retz (by simp) [] [] rfl rfl
  by_cases hs0 : 0 ≤ seen
  case neg =>
    try simp only [List.cons_append, List.nil_append, List.append_nil]
    refine JR_run (id := 1) (rest := []) [.rd 1 [] 0 0] [0, 1, 2, 6, 7] (E1 := fun _ => [(0, .val (.string text)), (1, .val (.int .i64 adds)), (2, .val (.int .i64 seen)), (6, .val (.bool false)), (7, .val (.bool true))]) (h1 := fun _ => []) (p1 := fun _ => []) (W1 := []) (fun _ => by kernel_rfl) (fun _ => trivial) (fun _ => ?_)
    refine JR_end ?_
    refine J_seq ?_
    refine J_seq ?_
    refine J_reg mixed [.rd 0 [] 0 0, .rd 1 [] 0 0, .rd 2 [] 0 0, .rd 3 [] 0 0, .rd 4 [] 0 7, .rd 5 [] 0 0, .rd 6 [] 0 0, .rd 7 [] 0 0, .rd 8 [] 0 7, .rd 9 [] 0 0, .rd 10 [] 0 0, .rd 11 [] 0 0, .rd 12 [] 0 6, .rd 13 [] 0 0, .rd 14 [] 0 0, .rd 15 [] 1 0, .rd 16 [] 1 0, .rd 17 [] 1 0, .rd 18 [] 0 0, .rd 19 [] 0 0, .rd 20 [] 1 0, .rd 21 [] 1 0, .rd 22 [] 1 0, .rd 23 [] 0 0] [] [0, 1, 2, 6, 7, 42] (E1 := fun _ => [(0, .val (.string text)), (1, .val (.int .i64 adds)), (2, .val (.int .i64 seen)), (6, .val (.bool false)), (7, .val (.bool true)), (42, .val (.bool true))]) (h1 := fun _ => []) (p1 := fun _ => [decide (adds < (1 : Int)) = false, decide (adds > (6 : Int)) = false, decide (seen < (0 : Int)) = true]) (W1 := []) (by kernel_rfl) (fun _ => by kernel_rfl) (fun _ => ⟨by simp; omega, by simp; omega, by simp; omega, trivial⟩) (fun _ => ?_)
    refine J_cond_t (by kernel_rfl) (by kernel_rfl) ?_
    refine J_seq ?_
    refine J_reg mixed [.rd 0 [] 0 0, .rd 1 [] 0 0] [] [0, 1, 2, 6] (E1 := fun _ => [(0, .val (.string text)), (1, .val (.int .i64 adds)), (2, .val (.int .i64 seen)), (6, .val (.bool true))]) (h1 := fun _ => []) (p1 := fun _ => []) (W1 := []) (by kernel_rfl) (fun _ => by kernel_rfl) (fun _ => trivial) (fun _ => ?_)
    refine J_return [[]] (.bool true) (by kernel_rfl) (fun a w s => ?_)
    exact s.retz (by simp) [] [] rfl rfl
  by_cases hsa : seen ≤ adds
  case neg =>
    try simp only [List.cons_append, List.nil_append, List.append_nil]
    refine JR_run (id := 1) (rest := []) [.rd 1 [] 0 0] [0, 1, 2, 6, 7] (E1 := fun _ => [(0, .val (.string text)), (1, .val (.int .i64 adds)), (2, .val (.int .i64 seen)), (6, .val (.bool false)), (7, .val (.bool true))]) (h1 := fun _ => []) (p1 := fun _ => []) (W1 := []) (fun _ => by kernel_rfl) (fun _ => trivial) (fun _ => ?_)
    refine JR_end ?_
    refine J_seq ?_
    refine J_seq ?_
    refine J_reg mixed [.rd 0 [] 0 0, .rd 1 [] 0 0, .rd 2 [] 0 0, .rd 3 [] 0 0, .rd 4 [] 0 7, .rd 5 [] 0 0, .rd 6 [] 0 0, .rd 7 [] 0 0, .rd 8 [] 0 7, .rd 9 [] 0 0, .rd 10 [] 0 0, .rd 11 [] 0 0, .rd 12 [] 0 7, .rd 13 [] 0 0, .rd 14 [] 0 0, .rd 15 [] 0 0, .rd 16 [] 0 0, .rd 17 [] 0 6, .rd 18 [] 0 0, .rd 19 [] 0 0, .rd 20 [] 1 0, .rd 21 [] 1 0, .rd 22 [] 1 0, .rd 23 [] 0 0] [] [0, 1, 2, 6, 7, 42] (E1 := fun _ => [(0, .val (.string text)), (1, .val (.int .i64 adds)), (2, .val (.int .i64 seen)), (6, .val (.bool false)), (7, .val (.bool true)), (42, .val (.bool true))]) (h1 := fun _ => []) (p1 := fun _ => [decide (adds < (1 : Int)) = false, decide (adds > (6 : Int)) = false, decide (seen < (0 : Int)) = false, decide (seen > adds) = true]) (W1 := []) (by kernel_rfl) (fun _ => by kernel_rfl) (fun _ => ⟨by simp; omega, by simp; omega, by simp; omega, by simp; omega, trivial⟩) (fun _ => ?_)
    refine J_cond_t (by kernel_rfl) (by kernel_rfl) ?_
    refine J_seq ?_
    refine J_reg mixed [.rd 0 [] 0 0, .rd 1 [] 0 0] [] [0, 1, 2, 6] (E1 := fun _ => [(0, .val (.string text)), (1, .val (.int .i64 adds)), (2, .val (.int .i64 seen)), (6, .val (.bool true))]) (h1 := fun _ => []) (p1 := fun _ => []) (W1 := []) (by kernel_rfl) (fun _ => by kernel_rfl) (fun _ => trivial) (fun _ => ?_)
    refine J_return [[]] (.bool true) (by kernel_rfl) (fun a w s => ?_)
    exact s.retz (by simp) [] [] rfl rfl
  by_cases htx : text.size ≤ 60
  case neg =>
    try simp only [List.cons_append, List.nil_append, List.append_nil]
    refine JR_run (id := 1) (rest := []) [.rd 1 [] 0 0] [0, 1, 2, 6, 7] (E1 := fun _ => [(0, .val (.string text)), (1, .val (.int .i64 adds)), (2, .val (.int .i64 seen)), (6, .val (.bool false)), (7, .val (.bool true))]) (h1 := fun _ => []) (p1 := fun _ => []) (W1 := []) (fun _ => by kernel_rfl) (fun _ => trivial) (fun _ => ?_)
    refine JR_end ?_
    refine J_seq ?_
    refine J_seq ?_
    refine J_reg mixed [.rd 0 [] 0 0, .rd 1 [] 0 0, .rd 2 [] 0 0, .rd 3 [] 0 0, .rd 4 [] 0 7, .rd 5 [] 0 0, .rd 6 [] 0 0, .rd 7 [] 0 0, .rd 8 [] 0 7, .rd 9 [] 0 0, .rd 10 [] 0 0, .rd 11 [] 0 0, .rd 12 [] 0 7, .rd 13 [] 0 0, .rd 14 [] 0 0, .rd 15 [] 0 0, .rd 16 [] 0 0, .rd 17 [] 0 7, .rd 18 [] 0 0, .rd 19 [] 0 0, .rd 20 [] 0 0, .rd 21 [] 0 0, .rd 22 [] 0 6, .rd 23 [] 0 0] [] [0, 1, 2, 6, 7, 42] (E1 := fun _ => [(0, .val (.string text)), (1, .val (.int .i64 adds)), (2, .val (.int .i64 seen)), (6, .val (.bool false)), (7, .val (.bool true)), (42, .val (.bool true))]) (h1 := fun _ => []) (p1 := fun _ => [decide (adds < (1 : Int)) = false, decide (adds > (6 : Int)) = false, decide (seen < (0 : Int)) = false, decide (seen > adds) = false, decide ((↑text.size : Int) > (60 : Int)) = true]) (W1 := []) (by kernel_rfl) (fun _ => by kernel_rfl) (fun _ => ⟨by simp; omega, by simp; omega, by simp; omega, by simp; omega, by simp; omega, trivial⟩) (fun _ => ?_)
    refine J_cond_t (by kernel_rfl) (by kernel_rfl) ?_
    refine J_seq ?_
    refine J_reg mixed [.rd 0 [] 0 0, .rd 1 [] 0 0] [] [0, 1, 2, 6] (E1 := fun _ => [(0, .val (.string text)), (1, .val (.int .i64 adds)), (2, .val (.int .i64 seen)), (6, .val (.bool true))]) (h1 := fun _ => []) (p1 := fun _ => []) (W1 := []) (by kernel_rfl) (fun _ => by kernel_rfl) (fun _ => trivial) (fun _ => ?_)
    refine J_return [[]] (.bool true) (by kernel_rfl) (fun a w s => ?_)
    exact s.retz (by simp) [] [] rfl rfl
  try simp only [List.cons_append, List.nil_append, List.append_nil]
  refine JR_run (id := 1) (rest := []) [.rd 1 [] 0 0] [0, 1, 2, 6, 7] (E1 := fun _ => [(0, .val (.string text)), (1, .val (.int .i64 adds)), (2, .val (.int .i64 seen)), (6, .val (.bool false)), (7, .val (.bool true))]) (h1 := fun _ => []) (p1 := fun _ => []) (W1 := []) (fun _ => by kernel_rfl) (fun _ => trivial) (fun _ => ?_)
  refine JR_end ?_
  refine J_seq ?_
  refine J_seq ?_
  refine J_reg mixed [.rd 0 [] 0 0, .rd 1 [] 0 0, .rd 2 [] 0 0, .rd 3 [] 0 0, .rd 4 [] 0 7, .rd 5 [] 0 0, .rd 6 [] 0 0, .rd 7 [] 0 0, .rd 8 [] 0 7, .rd 9 [] 0 0, .rd 10 [] 0 0, .rd 11 [] 0 0, .rd 12 [] 0 7, .rd 13 [] 0 0, .rd 14 [] 0 0, .rd 15 [] 0 0, .rd 16 [] 0 0, .rd 17 [] 0 7, .rd 18 [] 0 0, .rd 19 [] 0 0, .rd 20 [] 0 0, .rd 21 [] 0 0, .rd 22 [] 0 7, .rd 23 [] 0 0] [] [0, 1, 2, 6, 7, 42] (E1 := fun _ => [(0, .val (.string text)), (1, .val (.int .i64 adds)), (2, .val (.int .i64 seen)), (6, .val (.bool false)), (7, .val (.bool true)), (42, .val (.bool false))]) (h1 := fun _ => []) (p1 := fun _ => [decide (adds < (1 : Int)) = false, decide (adds > (6 : Int)) = false, decide (seen < (0 : Int)) = false, decide (seen > adds) = false, decide ((↑text.size : Int) > (60 : Int)) = false]) (W1 := []) (by kernel_rfl) (fun _ => by kernel_rfl) (fun _ => ⟨by simp; omega, by simp; omega, by simp; omega, by simp; omega, by simp; omega, trivial⟩) (fun _ => ?_)
  refine J_cond_f (by kernel_rfl) (by kernel_rfl) ?_
  refine J_skip ?_
  refine J_seq ?_
  refine J_reg mixed [.rd 0 [] 0 0] [] [0, 1, 2, 6, 8] (E1 := fun _ => [(0, .val (.string text)), (1, .val (.int .i64 adds)), (2, .val (.int .i64 seen)), (6, .val (.bool false)), (8, .val (.slice none 0 0))]) (h1 := fun _ => []) (p1 := fun _ => []) (W1 := []) (by kernel_rfl) (fun _ => by kernel_rfl) (fun _ => trivial) (fun _ => ?_)
  refine J_seq ?_
  refine J_reg mixed [.rd 0 [] 0 0, .rd 1 [] 0 0, .wr 2 [] 0, .wr 3 [.o 0 none, .o 0 none, .o 0 none, .o 0 none, .o 0 none, .o 0 none, .o 0 none] 0] [(3, [])] [0, 1, 2, 6, 8, 9] (E1 := fun nu1 => [(0, .val (.string text)), (1, .val (.int .i64 adds)), (2, .val (.int .i64 seen)), (6, .val (.bool false)), (8, .val (.slice none 0 0)), (9, .val (.pointer (some (⟨nu1 0, 0, none⟩))))]) (h1 := fun nu1 => [(nu1 0, .cells #[.int .i64 0, .string (ByteArray.mk #[115]), .int .i64 3, .string text, .int .i64 0, .bool true, .slice none 0 0] 24 (0, 0))]) (p1 := fun nu1 => []) (W1 := []) (by kernel_rfl) (fun _ => by kernel_rfl) (fun _ => trivial) (fun nu1 => ?_)
  refine J_seq ?_
  refine J_seq ?_
  refine J_stp (stp_accm eCom 28 3) ?_
  refine J_stp (stp_accm eDot 65 3) ?_
  refine J_norm (C' := [cAcc (.slice none 0 0) 28 3 (List.map eCom []), cAcc (.slice none 0 0) 65 3 (List.map eDot [])]) (G' := [(.nilIface, (dC er eb))]) (by kernel_rfl) (by kernel_rfl) ?_
  refine J_reg mixed [.rd 0 [] 0 0] [] [0, 1, 2, 6, 8, 9, 10] (E1 := fun _ => [(0, .val (.string text)), (1, .val (.int .i64 adds)), (2, .val (.int .i64 seen)), (6, .val (.bool false)), (8, .val (.slice none 0 0)), (9, .val (.pointer (some (⟨nu1 0, 0, none⟩)))), (10, .val (.int .i64 0))]) (h1 := fun _ => [(nu1 0, .cells #[.int .i64 0, .string (ByteArray.mk #[115]), .int .i64 3, .string text, .int .i64 0, .bool true, .slice none 0 0] 24 (0, 0))]) (p1 := fun _ => []) (W1 := []) (by kernel_rfl) (fun _ => by kernel_rfl) (fun _ => trivial) (fun _ => ?_)
  refine J_block ?_
  have e0 : ([] : List DotT) = dotsS (min 0 seen).toNat := by
    rw [show min 0 seen = 0 by omega]
    rfl
  rw [e0]
  refine J_loopx (fun x : SetI => [(0, .val (.string text)), (1, .val (.int .i64 adds)), (2, .val (.int .i64 seen)), (6, .val (.bool false)), (8, .val (.slice x.a x.k x.c)), (9, .val (.pointer (some (⟨nu1 0, 0, none⟩)))), (10, .val (.int .i64 x.i))]) (fun x : SetI => [(nu1 0, .cells #[.int .i64 0, .string keyS, .int .i64 3, .string text, .int .i64 0, .bool true, .slice x.b x.m x.d] 24 (0, 0))]) (fun x : SetI => [cAcc (.slice x.a x.k x.c) 28 3 ((addS text x.i.toNat).map eCom), cAcc (.slice x.b x.m x.d) 65 3 ((dotsS (min x.i seen).toNat).map eDot)]) (fun x : SetI => [(.nilIface, (dC er eb))]) (fun x : SetI => (adds - x.i).toNat) (fun x : SetI => (0 ≤ x.i ∧ x.i ≤ adds)) ⟨0, none, 0, 0, none, 0, 0⟩ [0, 1, 2, 6, 8, 9, 10] [0] [0, 1] [0] ?_ (by kernel_rfl) rfl rfl rfl ?_
  · exact ⟨by simp, by simp; omega⟩
  rintro ⟨i, av, k, cv, bv, m, dv⟩ ⟨hi0, hi⟩
  dsimp only at hi0 hi ⊢
  refine J_stpx (stp_acclen 0 rfl) fun _ hk => ?_
  have hk2 : k ≤ 6 := by
    rw [List.length_map, addS, List.length_map, List.length_range] at hk
    omega
  refine J_stpx (stp_acclen 1 rfl) fun _ hm => ?_
  have hm2 : m ≤ 6 := by
    rw [List.length_map, dotsS, List.length_map, List.length_range] at hm
    omega
  refine J_seq ?_
  refine J_seq ?_
  refine J_reg mixed [.rd 0 [] 0 0, .rd 1 [] 0 0, .rd 2 [] 0 0] [] [0, 1, 2, 6, 8, 9, 10, 48] (E1 := fun _ => [(0, .val (.string text)), (1, .val (.int .i64 adds)), (2, .val (.int .i64 seen)), (6, .val (.bool false)), (8, .val (.slice av k cv)), (9, .val (.pointer (some (⟨nu1 0, 0, none⟩)))), (10, .val (.int .i64 i)), (48, .val (.bool (decide (i < adds))))]) (h1 := fun _ => [(nu1 0, .cells #[.int .i64 0, .string keyS, .int .i64 3, .string text, .int .i64 0, .bool true, .slice bv m dv] 24 (0, 0))]) (p1 := fun _ => []) (W1 := []) (by kernel_rfl) (fun _ => by kernel_rfl) (fun _ => trivial) (fun _ => ?_)
  refine J_cond (t := decide (i < adds)) (by kernel_rfl) (by kernel_rfl) (fun hlt => ?_) (fun hlt => ?_)
  · have hlt2 : i < adds := by simpa using hlt
    refine J_skip ?_
    refine J_seq ?_
    refine J_block ?_
    refine J_seq ?_
    refine J_reg mixed [.wr 0 [] 0, .rd 1 [] 0 0] [] [0, 1, 2, 6, 8, 9, 10, 11] (E1 := fun nu2 => [(0, .val (.string text)), (1, .val (.int .i64 adds)), (2, .val (.int .i64 seen)), (6, .val (.bool false)), (8, .val (.slice av k cv)), (9, .val (.pointer (some (⟨nu1 0, 0, none⟩)))), (10, .val (.int .i64 i)), (11, .val (.slice (some (⟨nu2 0, 0, none⟩)) 6 6))]) (h1 := fun nu2 => [(nu1 0, .cells #[.int .i64 0, .string keyS, .int .i64 3, .string text, .int .i64 0, .bool true, .slice bv m dv] 24 (0, 0)), (nu2 0, .cells #[.int .i64 0, .int .i64 0, .int .i64 0, .int .i64 0, .int .i64 0, .int .i64 0] 3 (0, 0))]) (p1 := fun nu2 => []) (W1 := []) (by kernel_rfl) (fun _ => by kernel_rfl) (fun _ => trivial) (fun nu2 => ?_)
    refine J_seq ?_
    obtain ⟨cur, hcur⟩ : ∃ cur : Array Value, #[.int .i64 0, .int .i64 0, .int .i64 0, .int .i64 0, .int .i64 0, .int .i64 0] = cur := ⟨_, rfl⟩
    have hcur2 : cur = cellsI (List.replicate 6 0) := hcur.symm
    rw [hcur]
    have hl : i.toNat + 1 ≤ cur.size := by rw [hcur2, cellsI_size, List.length_replicate]; omega
    refine J_reg mixed [.rd 0 [] 0 0, .rd 1 [] 0 0, .rd 2 [] 0 2, .wr 3 [.o 1 (some (.int .i64 1))] 0] [(3, [1])] [0, 1, 2, 6, 8, 9, 10, 11] (E1 := fun _ => [(0, .val (.string text)), (1, .val (.int .i64 adds)), (2, .val (.int .i64 seen)), (6, .val (.bool false)), (8, .val (.slice av k cv)), (9, .val (.pointer (some (⟨nu1 0, 0, none⟩)))), (10, .val (.int .i64 i)), (11, .val (.slice (some (⟨nu2 0, 0, none⟩)) 6 6))]) (h1 := fun _ => [(nu1 0, .cells #[.int .i64 0, .string keyS, .int .i64 3, .string text, .int .i64 0, .bool true, .slice bv m dv] 24 (0, 0)), (nu2 0, .cells (cur.setIfInBounds (0 + i.toNat * 1) (Value.int IntKind.i64 1)) 3 (0, 0))]) (p1 := fun _ => [(0 : Int) ≤ i, i < (↑(6 : Nat) : Int), (Value.int IntKind.i64 (1 : Int)).oneCell' = true, (0 : Nat) + i.toNat * (1 : Nat) < cur.size]) (W1 := []) (by kernel_rfl) (fun _ => by kernel_rfl) (fun _ => ⟨hi0, by omega, ?_, by omega, trivial⟩) (fun _ => ?_)
    · rfl
    have hcs : cur.setIfInBounds (0 + i.toNat * 1) (.int .i64 1) = cellsI (whenS i.toNat) := by rw [hcur2, Nat.zero_add, Nat.mul_one, set_ints]
    rw [hcs]
    refine J_data (size := 1) 1 eI (whenS i.toNat) 6 rfl (by decide) (by intro x _; rfl) (by simp) (rowG_ints _) ?_
    have hw6 : (List.map eI (whenS i.toNat)).length = 6 := by simp
    rw [hw6]
    have hii : ((i.toNat : Nat) : Int) = i := Int.toNat_of_nonneg hi0
    have e5 : addS text i.toNat ++ [⟨whenS i.toNat, i, [opS text]⟩] = addS text (i + 1).toNat := by
      rw [show (i + 1).toNat = i.toNat + 1 by omega, addS_snoc, comS, hii]
    refine J_norm (C' := [cAcc (.slice av k cv) 28 3 (List.map eCom (addS text i.toNat)), cAcc (.slice bv m dv) 65 3 (List.map eDot (dotsS (min i seen).toNat))]) (G' := [(.nilIface, (dC er eb)), (.slice (some (⟨nu2 0, 0, none⟩)) 6 6, (D.sl 1 (List.map eI (whenS i.toNat))))]) (by kernel_rfl) (by kernel_rfl) ?_
    refine J_seq ?_
    refine JR_begin mixed [(0, true), (1, true), (2, true), (3, true), (4, true), (5, false), (6, true), (7, false), (8, false), (9, true)] [] (by kernel_rfl) (by kernel_rfl) ?_
    refine JR_run (id := 11) (rest := [(8, false), (9, true)]) [.rd 0 [] 0 0, .rd 1 [] 0 0, .rd 2 [] 0 0, .rd 3 [] 0 0, .rd 4 [] 0 0, .wr 5 [] 0, .rd 6 [] 0 0, .wr 7 [] 0] [0, 1, 2, 6, 8, 9, 10, 11, 55, 62] (E1 := fun nu3 => [(0, .val (.string text)), (1, .val (.int .i64 adds)), (2, .val (.int .i64 seen)), (6, .val (.bool false)), (8, .val (.slice av k cv)), (9, .val (.pointer (some (⟨nu1 0, 0, none⟩)))), (10, .val (.int .i64 i)), (11, .val (.slice (some (⟨nu2 0, 0, none⟩)) 6 6)), (55, .val (.slice av k cv)), (62, .val (.slice (some (⟨nu3 1, 0, none⟩)) 1 1))]) (h1 := fun nu3 => [(nu1 0, .cells #[.int .i64 0, .string keyS, .int .i64 3, .string text, .int .i64 0, .bool true, .slice bv m dv] 24 (0, 0)), (nu3 0, .cells #[.int .i64 0, .string (ByteArray.mk #[115]), .int .i64 3, .string text, .int .i64 0, .bool false, .slice none 0 0] 24 (0, 0)), (nu3 1, .cells #[.slice (some (⟨nu2 0, 0, none⟩)) 6 6, .int .i64 i, .slice (some (⟨nu3 0, 0, none⟩)) 1 1] 28 (0, 0))]) (p1 := fun nu3 => []) (W1 := []) (fun _ => by kernel_rfl) (fun _ => trivial) (fun nu3 => ?_)
    refine JR_data (size := 7) 1 eOp [opS text] 1 rfl (by kernel_rfl) (by decide) (by intro x _; rfl) (by simp) ⟨.inl ⟨rfl, rfl⟩, ⟨.inl ⟨rfl, rfl⟩, ⟨.inl ⟨rfl, rfl⟩, ⟨.inl ⟨rfl, rfl⟩, ⟨.inl ⟨rfl, rfl⟩, ⟨.inl ⟨rfl, rfl⟩, ⟨.inr (.inr ⟨_, _, _, rfl, rfl⟩), trivial⟩⟩⟩⟩⟩⟩⟩ ?_
    refine JR_appm 0 43 28 3 56 (.agg #[.slice none 0 0, .int .i64 0, .slice none 0 0]) (a0 := av) (len := k) (cap0 := cv) (ax := (some (⟨nu3 1, 0, none⟩))) (m := 1) (c := 1) (dst := (some 63)) [(⟨whenS i.toNat, i, [opS text]⟩ : ComT)] (by kernel_rfl) (by kernel_rfl) (by kernel_rfl) (by kernel_rfl) rfl (by decide) rfl (fun _ _ _ s => src_one s 1 rfl rfl ⟨.inr (.inl (List.mem_of_getElem? (i := 1) rfl)), ⟨.inl ⟨rfl, rfl⟩, ⟨.inr (.inl (List.mem_of_getElem? (i := 2) rfl)), trivial⟩⟩⟩) (by simp only [maxLen]; omega) (by omega) (fun av1 cv1 => ?_)
    rw [e5]
    by_cases hsi : i < seen
    · have e6 : dotsS (min i seen).toNat ++ [⟨i, 1, 0⟩] = dotsS (min (i + 1) seen).toNat := by
        rw [show (min (i + 1) seen).toNat = i.toNat + 1 by omega, show (min i seen).toNat = i.toNat by omega, dotsS_snoc, hii]
      try simp only [List.cons_append, List.nil_append, List.append_nil]
      refine JR_run (id := 11) (rest := []) [.rd 9 [] 0 0] [0, 1, 2, 6, 8, 9, 10, 11] (E1 := fun _ => [(0, .val (.string text)), (1, .val (.int .i64 adds)), (2, .val (.int .i64 seen)), (6, .val (.bool false)), (8, .val (.slice av1 (k + 1) cv1)), (9, .val (.pointer (some (⟨nu1 0, 0, none⟩)))), (10, .val (.int .i64 i)), (11, .val (.slice (some (⟨nu2 0, 0, none⟩)) 6 6))]) (h1 := fun _ => [(nu1 0, .cells #[.int .i64 0, .string keyS, .int .i64 3, .string text, .int .i64 0, .bool true, .slice bv m dv] 24 (0, 0)), (nu3 1, .cells #[.slice (some (⟨nu2 0, 0, none⟩)) 6 6, .int .i64 i, .slice (some (⟨nu3 0, 0, none⟩)) 1 1] 28 (0, 0))]) (p1 := fun _ => []) (W1 := []) (fun _ => by kernel_rfl) (fun _ => trivial) (fun _ => ?_)
      try simp only [List.cons_append, List.nil_append, List.append_nil]
      refine JR_end ?_
      try simp only [List.cons_append, List.nil_append, List.append_nil]
      refine J_seq ?_
      try simp only [List.cons_append, List.nil_append, List.append_nil]
      refine J_reg mixed [.rd 0 [] 0 0, .rd 1 [] 0 0, .rd 2 [] 0 6] [] [0, 1, 2, 6, 8, 9, 10, 11, 66] (E1 := fun _ => [(0, .val (.string text)), (1, .val (.int .i64 adds)), (2, .val (.int .i64 seen)), (6, .val (.bool false)), (8, .val (.slice av1 (k + 1) cv1)), (9, .val (.pointer (some (⟨nu1 0, 0, none⟩)))), (10, .val (.int .i64 i)), (11, .val (.slice (some (⟨nu2 0, 0, none⟩)) 6 6)), (66, .val (.bool true))]) (h1 := fun _ => [(nu1 0, .cells #[.int .i64 0, .string keyS, .int .i64 3, .string text, .int .i64 0, .bool true, .slice bv m dv] 24 (0, 0)), (nu3 1, .cells #[.slice (some (⟨nu2 0, 0, none⟩)) 6 6, .int .i64 i, .slice (some (⟨nu3 0, 0, none⟩)) 1 1] 28 (0, 0))]) (p1 := fun _ => [decide (i < seen) = true]) (W1 := []) (by kernel_rfl) (fun _ => by kernel_rfl) (fun _ => ⟨by simp; omega, trivial⟩) (fun _ => ?_)
      try simp only [List.cons_append, List.nil_append, List.append_nil]
      refine J_cond_t (by kernel_rfl) (by kernel_rfl) ?_
      try simp only [List.cons_append, List.nil_append, List.append_nil]
      refine JR_begin mixed [(0, true), (1, true), (2, true), (3, true), (4, false), (5, false), (6, true), (7, false)] [] (by kernel_rfl) (by kernel_rfl) ?_
      refine JR_run (id := 13) (rest := [(5, false), (6, true), (7, false)]) [.rd 0 [] 0 0, .rd 1 [.o 0 none] 0 0, .rd 2 [] 0 0, .rd 3 [] 0 0, .wr 4 [] 0] [0, 1, 2, 6, 8, 9, 10, 11, 68, 71] (E1 := fun nu4 => [(0, .val (.string text)), (1, .val (.int .i64 adds)), (2, .val (.int .i64 seen)), (6, .val (.bool false)), (8, .val (.slice av1 (k + 1) cv1)), (9, .val (.pointer (some (⟨nu1 0, 0, none⟩)))), (10, .val (.int .i64 i)), (11, .val (.slice (some (⟨nu2 0, 0, none⟩)) 6 6)), (68, .val (.slice bv m dv)), (71, .val (.slice (some (⟨nu4 0, 0, none⟩)) 1 1))]) (h1 := fun nu4 => [(nu1 0, .cells #[.int .i64 0, .string keyS, .int .i64 3, .string text, .int .i64 0, .bool true, .slice bv m dv] 24 (0, 0)), (nu3 1, .cells #[.slice (some (⟨nu2 0, 0, none⟩)) 6 6, .int .i64 i, .slice (some (⟨nu3 0, 0, none⟩)) 1 1] 28 (0, 0)), (nu4 0, .cells #[.int .i64 i, .int .i64 1, .int .i64 0] 65 (0, 0))]) (p1 := fun nu4 => []) (W1 := []) (fun _ => by kernel_rfl) (fun _ => trivial) (fun nu4 => ?_)
      refine JR_appm 0 22 65 3 24 (.agg #[.int .i64 0, .int .i64 0, .int .i64 0]) (a0 := bv) (len := m) (cap0 := dv) (ax := (some (⟨nu4 0, 0, none⟩))) (m := 1) (c := 1) (dst := (some 72)) [(⟨i, 1, 0⟩ : DotT)] (by kernel_rfl) (by kernel_rfl) (by kernel_rfl) (by kernel_rfl) rfl (by decide) rfl (fun _ _ _ s => src_one s 2 rfl rfl ⟨.inl ⟨rfl, rfl⟩, ⟨.inl ⟨rfl, rfl⟩, ⟨.inl ⟨rfl, rfl⟩, trivial⟩⟩⟩) (by simp only [maxLen]; omega) (by omega) (fun av2 cv2 => ?_)
      rw [e6]
      try simp only [List.cons_append, List.nil_append, List.append_nil]
      refine JR_run (id := 13) (rest := []) [.rd 6 [] 0 0, .wr 7 [.o 0 none] 0] [0, 1, 2, 6, 8, 9, 10, 11] (E1 := fun _ => [(0, .val (.string text)), (1, .val (.int .i64 adds)), (2, .val (.int .i64 seen)), (6, .val (.bool false)), (8, .val (.slice av1 (k + 1) cv1)), (9, .val (.pointer (some (⟨nu1 0, 0, none⟩)))), (10, .val (.int .i64 i)), (11, .val (.slice (some (⟨nu2 0, 0, none⟩)) 6 6))]) (h1 := fun _ => [(nu1 0, .cells #[.int .i64 0, .string keyS, .int .i64 3, .string text, .int .i64 0, .bool true, .slice av2 (m + 1) cv2] 24 (0, 0)), (nu3 1, .cells #[.slice (some (⟨nu2 0, 0, none⟩)) 6 6, .int .i64 i, .slice (some (⟨nu3 0, 0, none⟩)) 1 1] 28 (0, 0)), (nu4 0, .cells #[.int .i64 i, .int .i64 1, .int .i64 0] 65 (0, 0))]) (p1 := fun _ => []) (W1 := []) (fun _ => by kernel_rfl) (fun _ => trivial) (fun _ => ?_)
      try simp only [List.cons_append, List.nil_append, List.append_nil]
      refine JR_end ?_
      try simp only [List.cons_append, List.nil_append, List.append_nil]
      refine J_eb ?_
      try simp only [List.cons_append, List.nil_append, List.append_nil]
      refine J_reg mixed [.rd 0 [] 0 0, .rd 1 [] 0 1, .rd 2 [] 0 0] [] [0, 1, 2, 6, 8, 9, 10, 11] (E1 := fun _ => [(0, .val (.string text)), (1, .val (.int .i64 adds)), (2, .val (.int .i64 seen)), (6, .val (.bool false)), (8, .val (.slice av1 (k + 1) cv1)), (9, .val (.pointer (some (⟨nu1 0, 0, none⟩)))), (10, .val (.int .i64 (i + 1))), (11, .val (.slice (some (⟨nu2 0, 0, none⟩)) 6 6))]) (h1 := fun _ => [(nu1 0, .cells #[.int .i64 0, .string keyS, .int .i64 3, .string text, .int .i64 0, .bool true, .slice av2 (m + 1) cv2] 24 (0, 0)), (nu3 1, .cells #[.slice (some (⟨nu2 0, 0, none⟩)) 6 6, .int .i64 i, .slice (some (⟨nu3 0, 0, none⟩)) 1 1] 28 (0, 0)), (nu4 0, .cells #[.int .i64 i, .int .i64 1, .int .i64 0] 65 (0, 0))]) (p1 := fun _ => [IntKind.i64.wrap (i + (1 : Int)) = i + (1 : Int)]) (W1 := []) (by kernel_rfl) (fun _ => by kernel_rfl) (fun _ => ⟨wrap_i64 (by omega) (by omega), trivial⟩) (fun _ => ?_)
      try simp only [List.cons_append, List.nil_append, List.append_nil]
      refine J_backx ⟨i + 1, _, _, _, _, _, _⟩ [0, 1, 2, 6, 8, 9, 10] [0] [0, 1] [0] ?_ ?_ (by kernel_rfl) rfl rfl rfl
      · exact ⟨by simp only; omega, by simp only; omega⟩
      · simp only
        omega
    · have e6 : dotsS (min i seen).toNat = dotsS (min (i + 1) seen).toNat := by
        rw [show (min (i + 1) seen).toNat = (min i seen).toNat by omega]
      try simp only [List.cons_append, List.nil_append, List.append_nil]
      refine JR_run (id := 11) (rest := []) [.rd 9 [] 0 0] [0, 1, 2, 6, 8, 9, 10, 11] (E1 := fun _ => [(0, .val (.string text)), (1, .val (.int .i64 adds)), (2, .val (.int .i64 seen)), (6, .val (.bool false)), (8, .val (.slice av1 (k + 1) cv1)), (9, .val (.pointer (some (⟨nu1 0, 0, none⟩)))), (10, .val (.int .i64 i)), (11, .val (.slice (some (⟨nu2 0, 0, none⟩)) 6 6))]) (h1 := fun _ => [(nu1 0, .cells #[.int .i64 0, .string keyS, .int .i64 3, .string text, .int .i64 0, .bool true, .slice bv m dv] 24 (0, 0)), (nu3 1, .cells #[.slice (some (⟨nu2 0, 0, none⟩)) 6 6, .int .i64 i, .slice (some (⟨nu3 0, 0, none⟩)) 1 1] 28 (0, 0))]) (p1 := fun _ => []) (W1 := []) (fun _ => by kernel_rfl) (fun _ => trivial) (fun _ => ?_)
      try simp only [List.cons_append, List.nil_append, List.append_nil]
      refine JR_end ?_
      try simp only [List.cons_append, List.nil_append, List.append_nil]
      refine J_seq ?_
      try simp only [List.cons_append, List.nil_append, List.append_nil]
      refine J_reg mixed [.rd 0 [] 0 0, .rd 1 [] 0 0, .rd 2 [] 0 7] [] [0, 1, 2, 6, 8, 9, 10, 11, 66] (E1 := fun _ => [(0, .val (.string text)), (1, .val (.int .i64 adds)), (2, .val (.int .i64 seen)), (6, .val (.bool false)), (8, .val (.slice av1 (k + 1) cv1)), (9, .val (.pointer (some (⟨nu1 0, 0, none⟩)))), (10, .val (.int .i64 i)), (11, .val (.slice (some (⟨nu2 0, 0, none⟩)) 6 6)), (66, .val (.bool false))]) (h1 := fun _ => [(nu1 0, .cells #[.int .i64 0, .string keyS, .int .i64 3, .string text, .int .i64 0, .bool true, .slice bv m dv] 24 (0, 0)), (nu3 1, .cells #[.slice (some (⟨nu2 0, 0, none⟩)) 6 6, .int .i64 i, .slice (some (⟨nu3 0, 0, none⟩)) 1 1] 28 (0, 0))]) (p1 := fun _ => [decide (i < seen) = false]) (W1 := []) (by kernel_rfl) (fun _ => by kernel_rfl) (fun _ => ⟨by simp; omega, trivial⟩) (fun _ => ?_)
      try simp only [List.cons_append, List.nil_append, List.append_nil]
      refine J_cond_f (by kernel_rfl) (by kernel_rfl) ?_
      try simp only [List.cons_append, List.nil_append, List.append_nil]
      refine J_skip ?_
      try simp only [List.cons_append, List.nil_append, List.append_nil]
      refine J_eb ?_
      try simp only [List.cons_append, List.nil_append, List.append_nil]
      refine J_reg mixed [.rd 0 [] 0 0, .rd 1 [] 0 1, .rd 2 [] 0 0] [] [0, 1, 2, 6, 8, 9, 10, 11] (E1 := fun _ => [(0, .val (.string text)), (1, .val (.int .i64 adds)), (2, .val (.int .i64 seen)), (6, .val (.bool false)), (8, .val (.slice av1 (k + 1) cv1)), (9, .val (.pointer (some (⟨nu1 0, 0, none⟩)))), (10, .val (.int .i64 (i + 1))), (11, .val (.slice (some (⟨nu2 0, 0, none⟩)) 6 6))]) (h1 := fun _ => [(nu1 0, .cells #[.int .i64 0, .string keyS, .int .i64 3, .string text, .int .i64 0, .bool true, .slice bv m dv] 24 (0, 0)), (nu3 1, .cells #[.slice (some (⟨nu2 0, 0, none⟩)) 6 6, .int .i64 i, .slice (some (⟨nu3 0, 0, none⟩)) 1 1] 28 (0, 0))]) (p1 := fun _ => [IntKind.i64.wrap (i + (1 : Int)) = i + (1 : Int)]) (W1 := []) (by kernel_rfl) (fun _ => by kernel_rfl) (fun _ => ⟨wrap_i64 (by omega) (by omega), trivial⟩) (fun _ => ?_)
      try simp only [List.cons_append, List.nil_append, List.append_nil]
      rw [e6]
      refine J_backx ⟨i + 1, _, _, _, _, _, _⟩ [0, 1, 2, 6, 8, 9, 10] [0] [1, 0] [0] ?_ ?_ (by kernel_rfl) rfl rfl rfl
      · exact ⟨by simp only; omega, by simp only; omega⟩
      · simp only
        omega
  · have hia : i = adds := by simp at hlt; omega
    subst hia
    refine J_exit rfl ?_
    refine J_seq ?_
    refine J_reg mixed [.wr 0 [] 0, .rd 1 [] 0 0] [] [0, 1, 2, 6, 8, 9, 12] (E1 := fun nu2 => [(0, .val (.string text)), (1, .val (.int .i64 i)), (2, .val (.int .i64 seen)), (6, .val (.bool false)), (8, .val (.slice av k cv)), (9, .val (.pointer (some (⟨nu1 0, 0, none⟩)))), (12, .val (.slice (some (⟨nu2 0, 0, none⟩)) 6 6))]) (h1 := fun nu2 => [(nu1 0, .cells #[.int .i64 0, .string keyS, .int .i64 3, .string text, .int .i64 0, .bool true, .slice bv m dv] 24 (0, 0)), (nu2 0, .cells #[.int .i64 0, .int .i64 0, .int .i64 0, .int .i64 0, .int .i64 0, .int .i64 0] 3 (0, 0))]) (p1 := fun nu2 => []) (W1 := []) (by kernel_rfl) (fun _ => by kernel_rfl) (fun _ => trivial) (fun nu2 => ?_)
    refine J_seq ?_
    refine J_seq ?_
    refine J_reg mixed [.rd 0 [] 0 0] [] [0, 1, 2, 6, 8, 9, 12, 13] (E1 := fun _ => [(0, .val (.string text)), (1, .val (.int .i64 i)), (2, .val (.int .i64 seen)), (6, .val (.bool false)), (8, .val (.slice av k cv)), (9, .val (.pointer (some (⟨nu1 0, 0, none⟩)))), (12, .val (.slice (some (⟨nu2 0, 0, none⟩)) 6 6)), (13, .val (.int .i64 0))]) (h1 := fun _ => [(nu1 0, .cells #[.int .i64 0, .string keyS, .int .i64 3, .string text, .int .i64 0, .bool true, .slice bv m dv] 24 (0, 0)), (nu2 0, .cells #[.int .i64 0, .int .i64 0, .int .i64 0, .int .i64 0, .int .i64 0, .int .i64 0] 3 (0, 0))]) (p1 := fun _ => []) (W1 := []) (by kernel_rfl) (fun _ => by kernel_rfl) (fun _ => trivial) (fun _ => ?_)
    refine J_block ?_
    rw [show (#[.int .i64 0, .int .i64 0, .int .i64 0, .int .i64 0, .int .i64 0, .int .i64 0] : Array Value) = cellsI (onesZ 0) from rfl]
    have hdr : (min i seen).toNat = seen.toNat := by omega
    rw [hdr]
    refine J_loopx (fun q : Int => [(0, .val (.string text)), (1, .val (.int .i64 i)), (2, .val (.int .i64 seen)), (6, .val (.bool false)), (8, .val (.slice av k cv)), (9, .val (.pointer (some (⟨nu1 0, 0, none⟩)))), (12, .val (.slice (some (⟨nu2 0, 0, none⟩)) 6 6)), (13, .val (.int .i64 q))]) (fun q : Int => [(nu1 0, .cells #[.int .i64 0, .string keyS, .int .i64 3, .string text, .int .i64 0, .bool true, .slice bv m dv] 24 (0, 0)), (nu2 0, .cells (cellsI (onesZ q.toNat)) 3 (0, 0))]) (fun q : Int => [cAcc (.slice av k cv) 28 3 ((addS text i.toNat).map eCom), cAcc (.slice bv m dv) 65 3 ((dotsS seen.toNat).map eDot)]) (fun q : Int => [(.nilIface, (dC er eb))]) (fun q : Int => (seen - q).toNat) (fun q : Int => (0 ≤ q ∧ q ≤ seen)) 0 [0, 1, 2, 6, 8, 9, 12, 13] [0, 1] [0, 1] [0] ?_ (by kernel_rfl) rfl rfl rfl ?_
    · exact ⟨by omega, by omega⟩
    rintro q ⟨hq0, hq⟩
    refine J_seq ?_
    refine J_seq ?_
    refine J_reg mixed [.rd 0 [] 0 0, .rd 1 [] 0 0, .rd 2 [] 0 0] [] [0, 1, 2, 6, 8, 9, 12, 13, 77] (E1 := fun _ => [(0, .val (.string text)), (1, .val (.int .i64 i)), (2, .val (.int .i64 seen)), (6, .val (.bool false)), (8, .val (.slice av k cv)), (9, .val (.pointer (some (⟨nu1 0, 0, none⟩)))), (12, .val (.slice (some (⟨nu2 0, 0, none⟩)) 6 6)), (13, .val (.int .i64 q)), (77, .val (.bool (decide (q < seen))))]) (h1 := fun _ => [(nu1 0, .cells #[.int .i64 0, .string keyS, .int .i64 3, .string text, .int .i64 0, .bool true, .slice bv m dv] 24 (0, 0)), (nu2 0, .cells (cellsI (onesZ q.toNat)) 3 (0, 0))]) (p1 := fun _ => []) (W1 := []) (by kernel_rfl) (fun _ => by kernel_rfl) (fun _ => trivial) (fun _ => ?_)
    refine J_cond (t := decide (q < seen)) (by kernel_rfl) (by kernel_rfl) (fun hlt3 => ?_) (fun hlt3 => ?_)
    · have hlt4 : q < seen := by simpa using hlt3
      refine J_skip ?_
      refine J_seq ?_
      refine J_block ?_
      obtain ⟨cur, hcur⟩ : ∃ cur : Array Value, cellsI (onesZ q.toNat) = cur := ⟨_, rfl⟩
      rw [hcur]
      have hl : q.toNat + 1 ≤ cur.size := by rw [← hcur, cellsI_size, onesZ_len (by omega)]; omega
      refine J_reg mixed [.rd 0 [] 0 0, .rd 1 [] 0 0, .rd 2 [] 0 2, .wr 3 [.o 1 (some (.int .i64 1))] 0] [(3, [1])] [0, 1, 2, 6, 8, 9, 12, 13] (E1 := fun _ => [(0, .val (.string text)), (1, .val (.int .i64 i)), (2, .val (.int .i64 seen)), (6, .val (.bool false)), (8, .val (.slice av k cv)), (9, .val (.pointer (some (⟨nu1 0, 0, none⟩)))), (12, .val (.slice (some (⟨nu2 0, 0, none⟩)) 6 6)), (13, .val (.int .i64 q))]) (h1 := fun _ => [(nu1 0, .cells #[.int .i64 0, .string keyS, .int .i64 3, .string text, .int .i64 0, .bool true, .slice bv m dv] 24 (0, 0)), (nu2 0, .cells (cur.setIfInBounds (0 + q.toNat * 1) (Value.int IntKind.i64 1)) 3 (0, 0))]) (p1 := fun _ => [(0 : Int) ≤ q, q < (↑(6 : Nat) : Int), (Value.int IntKind.i64 (1 : Int)).oneCell' = true, (0 : Nat) + q.toNat * (1 : Nat) < cur.size]) (W1 := []) (by kernel_rfl) (fun _ => by kernel_rfl) (fun _ => ⟨hq0, by omega, ?_, by omega, trivial⟩) (fun _ => ?_)
      · rfl
      have hcs : cur.setIfInBounds (0 + q.toNat * 1) (.int .i64 1) = cellsI (onesZ (q + 1).toNat) := by rw [← hcur, Nat.zero_add, Nat.mul_one, set_ints, onesZ_step (by omega), show (q + 1).toNat = q.toNat + 1 by omega]
      rw [hcs]
      refine J_eb ?_
      refine J_reg mixed [.rd 0 [] 0 0, .rd 1 [] 0 1, .rd 2 [] 0 0] [] [0, 1, 2, 6, 8, 9, 12, 13] (E1 := fun _ => [(0, .val (.string text)), (1, .val (.int .i64 i)), (2, .val (.int .i64 seen)), (6, .val (.bool false)), (8, .val (.slice av k cv)), (9, .val (.pointer (some (⟨nu1 0, 0, none⟩)))), (12, .val (.slice (some (⟨nu2 0, 0, none⟩)) 6 6)), (13, .val (.int .i64 (q + 1)))]) (h1 := fun _ => [(nu1 0, .cells #[.int .i64 0, .string keyS, .int .i64 3, .string text, .int .i64 0, .bool true, .slice bv m dv] 24 (0, 0)), (nu2 0, .cells (cellsI (onesZ (q + 1).toNat)) 3 (0, 0))]) (p1 := fun _ => [IntKind.i64.wrap (q + (1 : Int)) = q + (1 : Int)]) (W1 := []) (by kernel_rfl) (fun _ => by kernel_rfl) (fun _ => ⟨wrap_i64 (by omega) (by omega), trivial⟩) (fun _ => ?_)
      refine J_backx (q + 1) [0, 1, 2, 6, 8, 9, 12, 13] [0, 1] [0, 1] [0] ?_ ?_ (by kernel_rfl) rfl rfl rfl
      · exact ⟨by omega, by omega⟩
      · omega
    · have hqs : q = seen := by simp at hlt3; omega
      subst hqs
      refine J_exit rfl ?_
      refine J_seq ?_
      obtain ⟨cur, hcur⟩ : ∃ cur : Array Value, cellsI (onesZ q.toNat) = cur := ⟨_, rfl⟩
      rw [hcur]
      have hl : 1 ≤ cur.size := by rw [← hcur, cellsI_size, onesZ_len (by omega)]; omega
      refine J_reg mixed [.rd 0 [] 0 0, .rd 1 [] 0 0, .wr 2 [.o 1 (some (.int .i64 2))] 0] [(2, [1])] [0, 1, 2, 6, 8, 9, 12] (E1 := fun _ => [(0, .val (.string text)), (1, .val (.int .i64 i)), (2, .val (.int .i64 q)), (6, .val (.bool false)), (8, .val (.slice av k cv)), (9, .val (.pointer (some (⟨nu1 0, 0, none⟩)))), (12, .val (.slice (some (⟨nu2 0, 0, none⟩)) 6 6))]) (h1 := fun _ => [(nu1 0, .cells #[.int .i64 0, .string keyS, .int .i64 3, .string text, .int .i64 0, .bool true, .slice bv m dv] 24 (0, 0)), (nu2 0, .cells (cur.setIfInBounds 0 (Value.int IntKind.i64 2)) 3 (0, 0))]) (p1 := fun _ => [(Value.int IntKind.i64 (2 : Int)).oneCell' = true, (0 : Nat) < cur.size]) (W1 := []) (by kernel_rfl) (fun _ => by kernel_rfl) (fun _ => ⟨?_, by omega, trivial⟩) (fun _ => ?_)
      · rfl
      have hcs : cur.setIfInBounds 0 (.int .i64 2) = cellsI (whenD q.toNat) := by
        rw [← hcur, set_ints]
        rfl
      rw [hcs]
      have hwl : (whenD q.toNat).length = 6 := by
        rw [whenD, List.length_set]
        exact onesZ_len (by omega)
      refine J_data (size := 1) 1 eI (whenD q.toNat) 6 rfl (by decide) (by intro x _; rfl) (by omega) (rowG_ints _) ?_
      have hw6 : (List.map eI (whenD q.toNat)).length = 6 := by rw [List.length_map]; exact hwl
      rw [hw6]
      refine J_stp (stp_freeze 1 rfl) ?_
      refine J_norm (C' := [cAcc (.slice av k cv) 28 3 (List.map eCom (addS text i.toNat))]) (G' := [(.nilIface, (dC er eb)), (.slice (some (⟨nu2 0, 0, none⟩)) 6 6, (D.sl 1 (List.map eI (whenD q.toNat)))), (.slice bv m dv, (D.sl 3 (List.map eDot (dotsS q.toNat))))]) (by kernel_rfl) (by kernel_rfl) ?_
      refine J_seq ?_
      refine JR_begin mixed [(0, true), (1, true), (2, true), (3, false), (4, true), (5, false), (6, false), (7, true)] [] (by kernel_rfl) (by kernel_rfl) ?_
      refine JR_run (id := 20) (rest := [(6, false), (7, true)]) [.rd 0 [] 0 0, .rd 1 [] 0 0, .rd 2 [.o 0 none, .o 0 none, .o 0 none, .o 0 none, .o 0 none, .o 0 none, .o 0 none] 0 0, .wr 3 [] 0, .rd 4 [] 0 0, .wr 5 [] 0] [0, 1, 2, 6, 8, 85, 90] (E1 := fun nu3 => [(0, .val (.string text)), (1, .val (.int .i64 i)), (2, .val (.int .i64 q)), (6, .val (.bool false)), (8, .val (.slice av k cv)), (85, .val (.slice av k cv)), (90, .val (.slice (some (⟨nu3 1, 0, none⟩)) 1 1))]) (h1 := fun nu3 => [(nu1 0, .cells #[.int .i64 0, .string keyS, .int .i64 3, .string text, .int .i64 0, .bool true, .slice bv m dv] 24 (0, 0)), (nu3 0, .cells #[.int .i64 0, .string keyS, .int .i64 3, .string text, .int .i64 0, .bool true, .slice bv m dv] 24 (0, 0)), (nu3 1, .cells #[.slice (some (⟨nu2 0, 0, none⟩)) 6 6, .int .i64 0, .slice (some (⟨nu3 0, 0, none⟩)) 1 1] 28 (0, 0))]) (p1 := fun nu3 => []) (W1 := []) (fun _ => by kernel_rfl) (fun _ => trivial) (fun nu3 => ?_)
      refine JR_data (size := 7) 1 eOp [dropS text q.toNat] 1 rfl (by kernel_rfl) (by decide) (by intro x _; rfl) (by simp) ⟨.inl ⟨rfl, rfl⟩, ⟨.inl ⟨rfl, rfl⟩, ⟨.inl ⟨rfl, rfl⟩, ⟨.inl ⟨rfl, rfl⟩, ⟨.inl ⟨rfl, rfl⟩, ⟨.inl ⟨rfl, rfl⟩, ⟨.inr (.inl (List.mem_of_getElem? (i := 2) rfl)), trivial⟩⟩⟩⟩⟩⟩⟩ ?_
      refine JR_appm 0 43 28 3 56 (.agg #[.slice none 0 0, .int .i64 0, .slice none 0 0]) (a0 := av) (len := k) (cap0 := cv) (ax := (some (⟨nu3 1, 0, none⟩))) (m := 1) (c := 1) (dst := (some 91)) [(⟨whenD q.toNat, 0, [dropS text q.toNat]⟩ : ComT)] (by kernel_rfl) (by kernel_rfl) (by kernel_rfl) (by kernel_rfl) rfl (by decide) rfl (fun _ _ _ s => src_one s 1 rfl rfl ⟨.inr (.inl (List.mem_of_getElem? (i := 1) rfl)), ⟨.inl ⟨rfl, rfl⟩, ⟨.inr (.inl (List.mem_of_getElem? (i := 3) rfl)), trivial⟩⟩⟩) (by simp only [maxLen]; omega) (by omega) (fun av1 cv1 => ?_)
      rw [show addS text i.toNat ++ [⟨whenD q.toNat, 0, [dropS text q.toNat]⟩] = setsL text i.toNat q.toNat from rfl]
      try simp only [List.cons_append, List.nil_append, List.append_nil]
      refine JR_run (id := 20) (rest := []) [.rd 7 [] 0 0] [0, 1, 2, 6, 8] (E1 := fun _ => [(0, .val (.string text)), (1, .val (.int .i64 i)), (2, .val (.int .i64 q)), (6, .val (.bool false)), (8, .val (.slice av1 (k + 1) cv1))]) (h1 := fun _ => [(nu1 0, .cells #[.int .i64 0, .string keyS, .int .i64 3, .string text, .int .i64 0, .bool true, .slice bv m dv] 24 (0, 0)), (nu3 1, .cells #[.slice (some (⟨nu2 0, 0, none⟩)) 6 6, .int .i64 0, .slice (some (⟨nu3 0, 0, none⟩)) 1 1] 28 (0, 0))]) (p1 := fun _ => []) (W1 := []) (fun _ => by kernel_rfl) (fun _ => trivial) (fun _ => ?_)
      try simp only [List.cons_append, List.nil_append, List.append_nil]
      refine JR_end ?_
      try simp only [List.cons_append, List.nil_append, List.append_nil]
      refine J_seq ?_
      try simp only [List.cons_append, List.nil_append, List.append_nil]
      refine J_stp (stp_freeze 0 rfl) ?_
      refine J_norm (C' := []) (G' := [(.nilIface, (dC er eb)), (.slice (some (⟨nu2 0, 0, none⟩)) 6 6, (D.sl 1 (List.map eI (whenD q.toNat)))), (.slice bv m dv, (D.sl 3 (List.map eDot (dotsS q.toNat)))), (.slice (some (⟨nu3 0, 0, none⟩)) ((List.map eOp [dropS text q.toNat]).length) 1, (D.sl 7 (List.map eOp [dropS text q.toNat]))), (.slice av1 (k + 1) cv1, (D.sl 3 (List.map eCom (setsL text i.toNat q.toNat))))]) (by kernel_rfl) (by kernel_rfl) ?_
      have hvf := sets_fine (t := text) (adds := i.toNat) (seen := q.toNat) htx (by omega) (by omega)
      obtain ⟨hkind, hset, hdl⟩ := sets_val (t := text) (adds := i.toNat) (seen := q.toNat) (by omega) (by omega) (by omega)
      have hal : ∀ c ∈ setsL text i.toNat q.toNat, c.when.length ≤ 1000000 ∧ c.ops.length ≤ 1000000 := fun c hc => by
        rcases List.mem_append.1 hc with hc | hc
        · obtain ⟨j, _, rfl⟩ := List.mem_map.1 hc
          simp
        · obtain rfl := List.mem_singleton.1 hc
          exact ⟨by show (whenD q.toNat).length ≤ _; omega, by simp⟩
      have hln : (setsL text i.toNat q.toNat).length ≤ 10 := by
        rw [setsL, List.length_append, addS, List.length_map, List.length_range, List.length_singleton]
        omega
      refine JR_begin mixed [(0, true), (1, false), (2, true), (3, true), (4, true), (5, false), (6, false), (7, true)] [] (by kernel_rfl) (by kernel_rfl) ?_
      refine JR_run (id := 21) (rest := [(1, false), (2, true), (3, true), (4, true), (5, false), (6, false), (7, true)]) [.rd 0 [] 0 0] [0, 1, 2, 6, 8, 93] (E1 := fun _ => [(0, .val (.string text)), (1, .val (.int .i64 i)), (2, .val (.int .i64 q)), (6, .val (.bool false)), (8, .val (.slice av1 (k + 1) cv1)), (93, .val (.slice av1 (k + 1) cv1))]) (h1 := fun _ => [(nu1 0, .cells #[.int .i64 0, .string keyS, .int .i64 3, .string text, .int .i64 0, .bool true, .slice bv m dv] 24 (0, 0)), (nu3 1, .cells #[.slice (some (⟨nu2 0, 0, none⟩)) 6 6, .int .i64 0, .slice (some (⟨nu3 0, 0, none⟩)) 1 1] 28 (0, 0))]) (p1 := fun _ => []) (W1 := []) (fun _ => by kernel_rfl) (fun _ => trivial) (fun _ => ?_)
      refine JR_callzp [] 21 #[.string (ByteArray.mk #[115]), .slice av1 (k + 1) cv1] (some 94) zero_all (by kernel_rfl) (fun w S hG => ?_)
      refine (vOf (key := keyS) (hG.at 0 rfl) (hG.at 4 rfl) (by omega) (fun x hx => (hal x hx).1) (fun x hx => (hal x hx).2)).mono ?_
      rintro e3 w3 (⟨hc, _⟩ | ⟨hc, ua, un, uc, hR⟩)
      · exact absurd hvf hc
      refine ⟨_, _, _, hR, ?_⟩
      try simp only [List.cons_append, List.nil_append, List.append_nil]
      refine JR_run (id := 21) (rest := []) [.rd 2 [] 0 0, .rd 3 [] 0 0, .rd 4 [] 0 0, .wr 5 [] 0, .wr 6 [.o 2 none, .o 2 none, .o 2 none, .o 2 none] 0, .rd 7 [] 0 0] [0, 1, 2, 6, 8, 14, 15] (E1 := fun nu4 => [(0, .val (.string text)), (1, .val (.int .i64 i)), (2, .val (.int .i64 q)), (6, .val (.bool false)), (8, .val (.slice av1 (k + 1) cv1)), (14, .val (.pointer (some (⟨nu4 0, 0, none⟩)))), (15, .val (.nilIface))]) (h1 := fun nu4 => [(nu1 0, .cells #[.int .i64 0, .string keyS, .int .i64 3, .string text, .int .i64 0, .bool true, .slice bv m dv] 24 (0, 0)), (nu3 1, .cells #[.slice (some (⟨nu2 0, 0, none⟩)) 6 6, .int .i64 0, .slice (some (⟨nu3 0, 0, none⟩)) 1 1] 28 (0, 0)), (nu4 0, .cells #[.int .i64 ((Sx.valOf keyS (setsL text i.toNat q.toNat)).kind), .string ((Sx.valOf keyS (setsL text i.toNat q.toNat)).text), .int .i64 ((Sx.valOf keyS (setsL text i.toNat q.toNat)).n), .slice ua un uc] 47 (0, 0))]) (p1 := fun nu4 => []) (W1 := []) (fun _ => by kernel_rfl) (fun _ => trivial) (fun nu4 => ?_)
      refine JR_end ?_
      refine J_seq ?_
      refine JR_begin mixed [(0, true), (1, true), (2, false), (3, true), (4, true), (5, true), (6, true), (7, true)] [] (by kernel_rfl) (by kernel_rfl) ?_
      refine JR_run (id := 22) (rest := [(2, false), (3, true), (4, true), (5, true), (6, true), (7, true)]) [.rd 0 [] 0 0, .rd 1 [] 0 0] [0, 1, 2, 6, 14, 15, 98, 99] (E1 := fun _ => [(0, .val (.string text)), (1, .val (.int .i64 i)), (2, .val (.int .i64 q)), (6, .val (.bool false)), (14, .val (.pointer (some (⟨nu4 0, 0, none⟩)))), (15, .val (.nilIface)), (98, .val (.string text)), (99, .val (.slice av1 (k + 1) cv1))]) (h1 := fun _ => [(nu1 0, .cells #[.int .i64 0, .string keyS, .int .i64 3, .string text, .int .i64 0, .bool true, .slice bv m dv] 24 (0, 0)), (nu3 1, .cells #[.slice (some (⟨nu2 0, 0, none⟩)) 6 6, .int .i64 0, .slice (some (⟨nu3 0, 0, none⟩)) 1 1] 28 (0, 0)), (nu4 0, .cells #[.int .i64 ((Sx.valOf keyS (setsL text i.toNat q.toNat)).kind), .string ((Sx.valOf keyS (setsL text i.toNat q.toNat)).text), .int .i64 ((Sx.valOf keyS (setsL text i.toNat q.toNat)).n), .slice ua un uc] 47 (0, 0))]) (p1 := fun _ => []) (W1 := []) (fun _ => by kernel_rfl) (fun _ => trivial) (fun _ => ?_)
      refine JR_callp [] 23 #[.string (ByteArray.mk #[115]), .string text, .slice av1 (k + 1) cv1] (some 100) (by kernel_rfl) (fun w S hG => ?_)
      refine (vDots (key := keyS) (text := text) (hG.at 0 rfl) (hG.at 4 rfl) (by omega) (fun x hx => (hal x hx).1) (fun x hx => (hal x hx).2)).mono ?_
      rintro e4 w4 (⟨hc4, _⟩ | ⟨_, da, dn, dc, hR⟩)
      · exact absurd hvf hc4
      refine ⟨_, _, _, hR, ?_⟩
      try simp only [List.cons_append, List.nil_append, List.append_nil]
      refine JR_run (id := 22) (rest := []) [.rd 3 [] 0 0, .rd 4 [] 0 0, .rd 5 [] 0 0, .rd 6 [] 0 0, .rd 7 [] 0 0] [0, 1, 2, 6, 14, 15, 16, 17] (E1 := fun _ => [(0, .val (.string text)), (1, .val (.int .i64 i)), (2, .val (.int .i64 q)), (6, .val (.bool false)), (14, .val (.pointer (some (⟨nu4 0, 0, none⟩)))), (15, .val (.nilIface)), (16, .val (.slice da dn dc)), (17, .val (.nilIface))]) (h1 := fun _ => [(nu1 0, .cells #[.int .i64 0, .string keyS, .int .i64 3, .string text, .int .i64 0, .bool true, .slice bv m dv] 24 (0, 0)), (nu3 1, .cells #[.slice (some (⟨nu2 0, 0, none⟩)) 6 6, .int .i64 0, .slice (some (⟨nu3 0, 0, none⟩)) 1 1] 28 (0, 0)), (nu4 0, .cells #[.int .i64 ((Sx.valOf keyS (setsL text i.toNat q.toNat)).kind), .string ((Sx.valOf keyS (setsL text i.toNat q.toNat)).text), .int .i64 ((Sx.valOf keyS (setsL text i.toNat q.toNat)).n), .slice ua un uc] 47 (0, 0))]) (p1 := fun _ => []) (W1 := []) (fun _ => by kernel_rfl) (fun _ => trivial) (fun _ => ?_)
      refine JR_end ?_
      refine J_seq ?_
      refine J_seq ?_
      refine J_stpx (stp_replen 6 rfl) fun _ hdn => ?_
      rw [List.length_map, hdl] at hdn
      refine J_stpx (stp_replen 5 rfl) fun _ hun => ?_
      rw [List.length_map, hset] at hun
      have hd1 : (dn : Int) = i - q := by omega
      by_cases hqi : q = i
      · have hu0 : (un : Int) = 0 := by
          rw [if_pos (by omega)] at hun
          simp at hun
          omega
        refine J_reg mixed [.rd 0 [] 0 0, .rd 1 [] 0 0, .rd 2 [] 0 0, .rd 3 [] 0 0, .rd 4 [] 0 0, .rd 5 [] 0 0, .rd 6 [] 0 0, .rd 7 [] 0 0, .rd 8 [.o 2 none] 0 0, .rd 9 [] 0 7, .rd 10 [] 0 0, .rd 11 [] 0 0, .rd 12 [] 0 0, .rd 13 [] 0 0, .rd 14 [] 0 0, .rd 15 [] 0 0, .rd 16 [] 0 1, .rd 17 [] 0 7, .rd 18 [] 0 0] [] [0, 1, 2, 6, 14, 121] (E1 := fun _ => [(0, .val (.string text)), (1, .val (.int .i64 i)), (2, .val (.int .i64 q)), (6, .val (.bool false)), (14, .val (.pointer (some (⟨nu4 0, 0, none⟩)))), (121, .val (.bool false))]) (h1 := fun _ => [(nu1 0, .cells #[.int .i64 0, .string keyS, .int .i64 3, .string text, .int .i64 0, .bool true, .slice bv m dv] 24 (0, 0)), (nu3 1, .cells #[.slice (some (⟨nu2 0, 0, none⟩)) 6 6, .int .i64 0, .slice (some (⟨nu3 0, 0, none⟩)) 1 1] 28 (0, 0)), (nu4 0, .cells #[.int .i64 ((Sx.valOf keyS (setsL text i.toNat q.toNat)).kind), .string ((Sx.valOf keyS (setsL text i.toNat q.toNat)).text), .int .i64 ((Sx.valOf keyS (setsL text i.toNat q.toNat)).n), .slice ua un uc] 47 (0, 0))]) (p1 := fun _ => [((Sx.valOf keyS (setsL text i.toNat q.toNat)).kind != (3 : Int)) = false, IntKind.i64.wrap (i - q) = i - q, ((↑dn : Int) != i - q) = false]) (W1 := []) (by kernel_rfl) (fun _ => by kernel_rfl) (fun _ => ⟨by simp; omega, wrap_i64 (by omega) (by omega), by simp; omega, trivial⟩) (fun _ => ?_)
        refine J_cond_f (by kernel_rfl) (by kernel_rfl) ?_
        refine J_skip ?_
        refine J_seq ?_
        refine J_seq ?_
        refine J_reg mixed [.rd 0 [] 0 0, .rd 1 [] 0 0, .rd 2 [] 0 6] [] [0, 6, 14, 124] (E1 := fun _ => [(0, .val (.string text)), (6, .val (.bool false)), (14, .val (.pointer (some (⟨nu4 0, 0, none⟩)))), (124, .val (.bool true))]) (h1 := fun _ => [(nu1 0, .cells #[.int .i64 0, .string keyS, .int .i64 3, .string text, .int .i64 0, .bool true, .slice bv m dv] 24 (0, 0)), (nu3 1, .cells #[.slice (some (⟨nu2 0, 0, none⟩)) 6 6, .int .i64 0, .slice (some (⟨nu3 0, 0, none⟩)) 1 1] 28 (0, 0)), (nu4 0, .cells #[.int .i64 ((Sx.valOf keyS (setsL text i.toNat q.toNat)).kind), .string ((Sx.valOf keyS (setsL text i.toNat q.toNat)).text), .int .i64 ((Sx.valOf keyS (setsL text i.toNat q.toNat)).n), .slice ua un uc] 47 (0, 0))]) (p1 := fun _ => [(q == i) = true]) (W1 := []) (by kernel_rfl) (fun _ => by kernel_rfl) (fun _ => ⟨by simp; omega, trivial⟩) (fun _ => ?_)
        refine J_cond_t (by kernel_rfl) (by kernel_rfl) ?_
        refine J_seq ?_
        refine J_reg mixed [.rd 0 [] 0 0, .rd 1 [.o 2 none] 0 0, .rd 2 [] 0 0, .rd 3 [] 0 6, .rd 4 [] 0 0] [] [0, 6, 14] (E1 := fun _ => [(0, .val (.string text)), (6, .val (.bool true)), (14, .val (.pointer (some (⟨nu4 0, 0, none⟩))))]) (h1 := fun _ => [(nu1 0, .cells #[.int .i64 0, .string keyS, .int .i64 3, .string text, .int .i64 0, .bool true, .slice bv m dv] 24 (0, 0)), (nu3 1, .cells #[.slice (some (⟨nu2 0, 0, none⟩)) 6 6, .int .i64 0, .slice (some (⟨nu3 0, 0, none⟩)) 1 1] 28 (0, 0)), (nu4 0, .cells #[.int .i64 ((Sx.valOf keyS (setsL text i.toNat q.toNat)).kind), .string ((Sx.valOf keyS (setsL text i.toNat q.toNat)).text), .int .i64 ((Sx.valOf keyS (setsL text i.toNat q.toNat)).n), .slice ua un uc] 47 (0, 0))]) (p1 := fun _ => [((↑un : Int) == (0 : Int)) = true]) (W1 := []) (by kernel_rfl) (fun _ => by kernel_rfl) (fun _ => ⟨by simp; omega, trivial⟩) (fun _ => ?_)
        refine J_return [[]] (.bool true) (by kernel_rfl) (fun a w s => ?_)
        exact s.retz (by simp) [] [] rfl rfl
      · rw [if_neg (by omega)] at hset
        refine J_reg mixed [.rd 0 [] 0 0, .rd 1 [] 0 0, .rd 2 [] 0 0, .rd 3 [] 0 0, .rd 4 [] 0 0, .rd 5 [] 0 0, .rd 6 [] 0 0, .rd 7 [] 0 0, .rd 8 [.o 2 none] 0 0, .rd 9 [] 0 7, .rd 10 [] 0 0, .rd 11 [] 0 0, .rd 12 [] 0 0, .rd 13 [] 0 0, .rd 14 [] 0 0, .rd 15 [] 0 0, .rd 16 [] 0 1, .rd 17 [] 0 7, .rd 18 [] 0 0] [] [0, 1, 2, 6, 14, 121] (E1 := fun _ => [(0, .val (.string text)), (1, .val (.int .i64 i)), (2, .val (.int .i64 q)), (6, .val (.bool false)), (14, .val (.pointer (some (⟨nu4 0, 0, none⟩)))), (121, .val (.bool false))]) (h1 := fun _ => [(nu1 0, .cells #[.int .i64 0, .string keyS, .int .i64 3, .string text, .int .i64 0, .bool true, .slice bv m dv] 24 (0, 0)), (nu3 1, .cells #[.slice (some (⟨nu2 0, 0, none⟩)) 6 6, .int .i64 0, .slice (some (⟨nu3 0, 0, none⟩)) 1 1] 28 (0, 0)), (nu4 0, .cells #[.int .i64 ((Sx.valOf keyS (setsL text i.toNat q.toNat)).kind), .string ((Sx.valOf keyS (setsL text i.toNat q.toNat)).text), .int .i64 ((Sx.valOf keyS (setsL text i.toNat q.toNat)).n), .slice ua un uc] 47 (0, 0))]) (p1 := fun _ => [((Sx.valOf keyS (setsL text i.toNat q.toNat)).kind != (3 : Int)) = false, IntKind.i64.wrap (i - q) = i - q, ((↑dn : Int) != i - q) = false]) (W1 := []) (by kernel_rfl) (fun _ => by kernel_rfl) (fun _ => ⟨by simp; omega, wrap_i64 (by omega) (by omega), by simp; omega, trivial⟩) (fun _ => ?_)
        refine J_cond_f (by kernel_rfl) (by kernel_rfl) ?_
        refine J_skip ?_
        refine J_seq ?_
        refine J_seq ?_
        refine J_reg mixed [.rd 0 [] 0 0, .rd 1 [] 0 0, .rd 2 [] 0 7] [] [0, 6, 14, 124] (E1 := fun _ => [(0, .val (.string text)), (6, .val (.bool false)), (14, .val (.pointer (some (⟨nu4 0, 0, none⟩)))), (124, .val (.bool false))]) (h1 := fun _ => [(nu1 0, .cells #[.int .i64 0, .string keyS, .int .i64 3, .string text, .int .i64 0, .bool true, .slice bv m dv] 24 (0, 0)), (nu3 1, .cells #[.slice (some (⟨nu2 0, 0, none⟩)) 6 6, .int .i64 0, .slice (some (⟨nu3 0, 0, none⟩)) 1 1] 28 (0, 0)), (nu4 0, .cells #[.int .i64 ((Sx.valOf keyS (setsL text i.toNat q.toNat)).kind), .string ((Sx.valOf keyS (setsL text i.toNat q.toNat)).text), .int .i64 ((Sx.valOf keyS (setsL text i.toNat q.toNat)).n), .slice ua un uc] 47 (0, 0))]) (p1 := fun _ => [(q == i) = false]) (W1 := []) (by kernel_rfl) (fun _ => by kernel_rfl) (fun _ => ⟨by simp; omega, trivial⟩) (fun _ => ?_)
        refine J_cond_f (by kernel_rfl) (by kernel_rfl) ?_
        refine J_skip ?_
        refine J_seq ?_
        refine JR_begin mixed [(0, true), (1, true), (2, true), (3, false), (4, false), (5, true)] [] (by kernel_rfl) (by kernel_rfl) ?_
        refine JR_run (id := 27) (rest := [(4, false), (5, true)]) [.rd 0 [] 0 0, .rd 1 [.o 2 none] 0 0, .rd 2 [] 0 0, .wr 3 [] 0] [6, 130, 132] (E1 := fun nu5 => [(6, .val (.bool false)), (130, .val (.slice ua un uc)), (132, .val (.slice (some (⟨nu5 0, 0, none⟩)) 1 1))]) (h1 := fun nu5 => [(nu1 0, .cells #[.int .i64 0, .string keyS, .int .i64 3, .string text, .int .i64 0, .bool true, .slice bv m dv] 24 (0, 0)), (nu3 1, .cells #[.slice (some (⟨nu2 0, 0, none⟩)) 6 6, .int .i64 0, .slice (some (⟨nu3 0, 0, none⟩)) 1 1] 28 (0, 0)), (nu4 0, .cells #[.int .i64 ((Sx.valOf keyS (setsL text i.toNat q.toNat)).kind), .string ((Sx.valOf keyS (setsL text i.toNat q.toNat)).text), .int .i64 ((Sx.valOf keyS (setsL text i.toNat q.toNat)).n), .slice ua un uc] 47 (0, 0)), (nu5 0, .cells #[.string text] 9 (0, 0))]) (p1 := fun nu5 => []) (W1 := []) (fun _ => by kernel_rfl) (fun _ => trivial) (fun nu5 => ?_)
        refine JR_data (size := 1) 3 eS [text] 1 rfl (by kernel_rfl) (by decide) (by intro x _; rfl) (by simp) ⟨.inl ⟨rfl, rfl⟩, trivial⟩ ?_
        refine JR_callp [] 32 #[.slice ua un uc, .slice (some (⟨nu5 0, 0, none⟩)) 1 1] (some 133) (by kernel_rfl) (fun w S hG => ?_)
        refine (sameTexts_eq (l := [text]) (by have := hG.at 5 rfl; rwa [hset] at this) (hG.at 7 rfl) (by simp)).mono ?_
        rintro e5 w5 hR
        refine ⟨_, _, _, hR, ?_⟩
        try simp only [List.cons_append, List.nil_append, List.append_nil]
        refine JR_run (id := 27) (rest := []) [.rd 5 [] 0 0] [6] (E1 := fun _ => [(6, .val (.bool true))]) (h1 := fun _ => [(nu1 0, .cells #[.int .i64 0, .string keyS, .int .i64 3, .string text, .int .i64 0, .bool true, .slice bv m dv] 24 (0, 0)), (nu3 1, .cells #[.slice (some (⟨nu2 0, 0, none⟩)) 6 6, .int .i64 0, .slice (some (⟨nu3 0, 0, none⟩)) 1 1] 28 (0, 0)), (nu4 0, .cells #[.int .i64 ((Sx.valOf keyS (setsL text i.toNat q.toNat)).kind), .string ((Sx.valOf keyS (setsL text i.toNat q.toNat)).text), .int .i64 ((Sx.valOf keyS (setsL text i.toNat q.toNat)).n), .slice ua un uc] 47 (0, 0))]) (p1 := fun _ => []) (W1 := []) (fun _ => by kernel_rfl) (fun _ => trivial) (fun _ => ?_)
        refine JR_end ?_
        refine J_return [[]] (.bool true) (by kernel_rfl) (fun a w s => ?_)
        exact s.retz (by simp) [] [] rfl rfl
end Go.Proofs.YtpjkiomccpjboaaGreatDoor
end
section
namespace Go.Sx
open Go Go.RowKit Go.ChangeShapes Go.WideShapes
theorem Fr.below {w w' : World} (h : Fr [] w w') : Below w.heap.size w w' := ⟨h.os, h.tape, h.output, h.size, fun b hb => h.block b hb (by simp)⟩
theorem cell_blk {w : World} {a : Addr} {v : Value} (h : w.cell? a = some v) : ∃ cs ty fz, w.heap[a.block]? = some (.cells cs ty fz) ∧ a.spot = none ∧ cs[a.off]? = some v := by
  unfold World.cell? at h
  split at h
  · rename_i cs ty fz hb
    split at h
    · cases h
    · rename_i hs
      exact ⟨cs, ty, fz, hb, by simpa using hs, h⟩
  · cases h
section
variable {H : Type} {enc : TypeId × Value → H} {P : Program}
theorem rep_var {W : World} {n : String} {g : Nat} {x : Value} (hg : P.globalNamed n = some g) (h : W.var? P n = some #[x]) (hx : x.oneCell' = true) : Rep W (fun _ => True) (.pointer (some ⟨g, 0, none⟩)) (.ptr [.v x]) := by
  unfold World.var? at h
  simp only [hg, Option.bind_some] at h
  split at h
  · rename_i cs ty fz hb
    cases h
    refine .ptr (fun _ => x) hb trivial (fun j hj => ?_) (fun j d hj => ?_)
    · obtain rfl : j = 0 := by simpa using hj
      rfl
    · match j, hj with
      | 0, hj =>
        simp only [List.getElem?_cons_zero, Option.some.injEq] at hj
        subst hj
        exact .v hx
      | j + 1, hj => simp at hj
  · cases h
theorem sents {W : World} {ti tp te ts : TypeId} {ms : Array (String × TypeId)} {nm : String} {f : Field} (hi : P.underlying ti = some (.interface ms)) (hrow : ∀ u, P.typeName? 3 u = some nm → u = tp)
    (hp : P.underlying tp = some (.pointer te)) (he : P.underlying te = some (.struct #[f])) (hft : f.type = ts) (hfo : f.offset = 0) (hs : P.underlying ts = some .string) (hc : P.cellsOf te = 1) (hcs : P.cellsOf ts = 1) :
    ∀ (ns : List (String × List UInt8)) (ps : List MemPlace), DataW.LaidVars P W (ns.map fun x => (x.1, DataW.iface nm (.ptr (.agg [.lit (.string x.2)])))) ps →
      ns.all (fun x => match P.globalNamed x.1 with
        | some g => (P.globals[g]?).map (·.type) == some ti
        | none => false) = true →
      (∀ b off, MemPlace.cell b off ∈ ps → ∀ u v, W.cell? ⟨b, off, none⟩ = some (.iface u v) → Value.okWide P W .any 0 u v) →
      ∃ adz : List Addr, adz.length = ns.length ∧ (∀ (i : Nat) x a, ns[i]? = some x → adz[i]? = some a → W.var? P x.1 = some #[.iface tp (.pointer (some a))] ∧ a.spot = none) ∧ (adz.map fun a => MemPlace.cell a.block a.off).Sublist ps
  | [], ps, _, _, _ => ⟨[], rfl, by simp, by simp⟩
  | (n, text) :: ns, ps, h, hg, hr => by
    rw [List.map_cons] at h
    obtain ⟨g0, t0, cs0, f0, p0, q0, hg0, ht0, hv0, hd0, hq, e0⟩ := h
    rw [List.all_cons, Bool.and_eq_true] at hg
    obtain ⟨hg1, hg2⟩ := hg
    simp only [hg0, ht0, beq_iff_eq, Option.some.injEq] at hg1
    subst hg1 e0
    obtain ⟨l0⟩ := cs0
    have ok0 : ∀ u v, l0 = [.iface u v] → Value.okWide P W .any 0 u v := fun u v e => by
      subst e
      exact hr g0 0 (by simp [MemPlace.row]) u v (by simpa using World.var?_cell hg0 hv0 0)
    obtain ⟨a0, s0, rfl, hc0, hs0, hz0, rfl⟩ := errorString_of_trod hi hrow hp he hft hfo hs hc hcs hd0 ok0
    obtain ⟨adz, h1, h2, h3⟩ := sents hi hrow hp he hft hfo hs hc hcs ns q0 hq hg2 fun b off hm => hr b off (List.mem_append_right _ hm)
    obtain ⟨_, _, _, _, hspot, _⟩ := cell_blk hc0
    refine ⟨a0 :: adz, by simp [h1], fun i x a hx ha => ?_, ?_⟩
    · cases i with
      | zero =>
        simp only [List.getElem?_cons_zero, Option.some.injEq] at hx ha
        subst hx ha
        exact ⟨hv0, hspot⟩
      | succ i =>
        simp only [List.getElem?_cons_succ] at hx ha
        exact h2 i x a hx ha
    · rw [List.map_cons, List.append_assoc]
      refine (List.Sublist.cons_cons _ h3).trans (?_ : List.Sublist _ (MemPlace.row a0 1 ++ q0)) |>.trans (List.sublist_append_right _ _)
      simp [MemPlace.row]
theorem errs_of {W : World} {ti tp te ts : TypeId} {ms : Array (String × TypeId)} {nm : String} {f : Field} (hi : P.underlying ti = some (.interface ms)) (hrow : ∀ u, P.typeName? 3 u = some nm → u = tp)
    (hp : P.underlying tp = some (.pointer te)) (he : P.underlying te = some (.struct #[f])) (hft : f.type = ts) (hfo : f.offset = 0) (hs : P.underlying ts = some .string) (hc : P.cellsOf te = 1) (hcs : P.cellsOf ts = 1)
    (ns : List (String × List UInt8)) (h : laidMet P (ns.map fun x => (x.1, DataW.iface nm (.ptr (.agg [.lit (.string x.2)])))) W)
    (hg : ns.all (fun x => match P.globalNamed x.1 with
        | some g => (P.globals[g]?).map (·.type) == some ti
        | none => false) = true) :
    ∃ (er : Nat → Addr) (eb : Nat → Array Value × TypeId), (∀ (i : Nat) x, ns[i]? = some x → W.var? P x.1 = some #[.iface tp (.pointer (some (er (i + 1))))] ∧ W.heap[(er (i + 1)).block]? = some (.cells (eb (i + 1)).1 (eb (i + 1)).2 (0, 0))) ∧
      ∀ i j, 1 ≤ i → i ≤ ns.length → 1 ≤ j → j ≤ ns.length → er i = er j → i = j := by
  obtain ⟨ps, hv, hnd, hrows⟩ := h
  obtain ⟨adz, h1, h2, h3⟩ := sents hi hrow hp he hft hfo hs hc hcs ns ps hv hg fun b off hm => (hrows b off hm).2
  have hnd2 := h3.nodup hnd
  have key : ∀ i : Nat, i < ns.length → ∃ a, adz[i]? = some a := fun i hi => ⟨_, List.getElem?_eq_getElem (by omega)⟩
  have hcell : ∀ (i : Nat) a, adz[i]? = some a → ∃ c : Array Value × TypeId, W.heap[a.block]? = some (.cells c.1 c.2 (0, 0)) := fun i a ha => by
    obtain ⟨c, t, hct⟩ := (hrows a.block a.off (h3.subset (List.mem_map.2 ⟨a, List.mem_of_getElem? ha, rfl⟩))).1
    exact ⟨(c, t), hct⟩
  classical
  refine ⟨fun k => adz.getD (k - 1) ⟨0, 0, none⟩, fun k => if hx : ∃ c : Array Value × TypeId, W.heap[(adz.getD (k - 1) ⟨0, 0, none⟩).block]? = some (.cells c.1 c.2 (0, 0)) then hx.choose else (#[], 0), fun i x hx => ?_, fun i j hi1 hi2 hj1 hj2 he => ?_⟩
  · obtain ⟨a, ha⟩ := key i (List.getElem?_eq_some_iff.1 hx).1
    have e : adz.getD (i + 1 - 1) ⟨0, 0, none⟩ = a := by simp [List.getD_eq_getElem?_getD, ha]
    have hh := hcell i a ha
    simp only [e]
    refine ⟨(h2 i x a hx ha).1, ?_⟩
    rw [dif_pos hh]
    exact hh.choose_spec
  · obtain ⟨a, ha⟩ := key (i - 1) (by omega)
    obtain ⟨b, hb⟩ := key (j - 1) (by omega)
    simp only [List.getD_eq_getElem?_getD, ha, hb, Option.getD_some] at he
    subst he
    have e1 : (adz.map fun a => MemPlace.cell a.block a.off)[i - 1]? = some (.cell a.block a.off) := by simp [ha]
    have e2 : (adz.map fun a => MemPlace.cell a.block a.off)[j - 1]? = some (.cell a.block a.off) := by simp [hb]
    have := (List.getElem?_inj (List.getElem?_eq_some_iff.1 e1).1 hnd2).1 (e1.trans e2.symm)
    omega
theorem trodAll_again (hl : laidOutB P = true) {W W' : World} {sp : Nat → Bool} (hb : Below W.heap.size W W') : ∀ {ts : List TypeId} {vs : List Value} {ds : List (DataW H)} {ps : List MemPlace},
    (∀ t ∈ ts, P.readableRec t = true ∧ t < P.types.size) → DataW.TrodAll enc P W 0 (fun _ => true) true ts vs ds ps → (∀ x ∈ ps, x.block < W.heap.size) → (∀ x ∈ ps, sp x.block = true) → DataW.TrodAll enc P W' 0 sp true ts vs ds ps
  | [], vs, ds, ps, _, h, _, _ => by
    obtain ⟨rfl, rfl, rfl⟩ := trodAll_nil h
    exact trodAll_mk0
  | t :: ts, vs, ds, ps, ht, h, hlt, hsp => by
    obtain ⟨v, vs', d, ds', p, q, rfl, rfl, rfl, h0, h1⟩ := trodAll_cons h
    obtain ⟨hr, hrow⟩ := ht t (List.mem_cons_self ..)
    refine trodAll_cons_mk (WideElems.Trod_stays hl hr hrow h0 (fun x hx => hb.same (hlt x (List.mem_append_left _ hx))) fun x hx => hsp x (List.mem_append_left _ hx)) ?_
    exact trodAll_again hl hb (fun t ht' => ht t (List.mem_cons_of_mem _ ht')) h1 (fun x hx => hlt x (List.mem_append_right _ hx)) fun x hx => hsp x (List.mem_append_right _ hx)
theorem law_post {f : Func} {s : ChangeSpec} {apart fresh handsOn again : Bool} {W W' : World} {args : Array Value} {ds gs : List (DataW H)} {before : List MemPlace} {tb : TypeId}
    (hl : laidOutB P = true) (hts : f.params.toList.all (fun t => P.readableRec t && Nat.blt t P.types.size) = true) (hb4 : P.underlying tb = some .bool) (hrt : f.resultTypes = #[tb]) (hvs : s.vars = [])
    (hW : DataW.Whole enc P f.params.toList s.vars apart W args.toList ds gs before) (hfn : ∀ gs, gs = [] → s.fn H (ds ++ gs) = { results := [.lit (.bool true)], args := ds })
    (hb : Below W.heap.size W W') : s.post enc P f apart fresh handsOn again W args (.bool true) W' := by
  have hlt : ∀ x ∈ before, x.block < W.heap.size := fun x hx => hW.lt x hx
  have hold : ∀ x ∈ before, (fun b => decide (b < W.heap.size)) x.block = true := fun x hx => by simpa using hlt x hx
  have hW' := hW
  obtain ⟨p, q, hA, hV, hpq, hz, hn⟩ := hW'
  rw [hvs] at hV
  obtain ⟨rfl, rfl⟩ := trodVars_none hV
  rw [List.append_nil] at hpq
  subst hpq
  have hfn := hfn [] rfl
  have htt : ∀ t ∈ f.params.toList, P.readableRec t = true ∧ t < P.types.size := fun t ht => by
    have := List.all_eq_true.1 hts t ht
    simp only [Bool.and_eq_true] at this
    exact ⟨this.1, Nat.lt_of_succ_le (Nat.le_of_ble_eq_true this.2)⟩
  have hres : ∀ (b : Nat) (sp : Nat → Bool) (hd : Bool), DataW.TrodAll enc P W' b sp hd f.resultTypes.toList ((Value.bool true).resultList f.resultTypes.size) (s.fn H (ds ++ [])).results [] := fun b sp hd => by
    rw [hfn, hrt]
    exact trodAll_mk1 ⟨1, by simp [DataW.trod, Value.cells, hb4]⟩
  have hargs : ∀ sp : Nat → Bool, (∀ x ∈ before, sp x.block = true) → DataW.TrodAll enc P W' 0 sp true f.params.toList args.toList (s.fn H (ds ++ [])).args before := fun sp hsp => by
    rw [hfn]
    exact trodAll_again hl hb htt hA hlt hsp
  have hvars : ∀ sp : Nat → Bool, DataW.TrodVars enc P W' sp s.vars (s.fn H (ds ++ [])).vars [] := fun sp => by
    rw [hvs, hfn]
    rfl
  refine ⟨ds, [], before, [], before, [], hW, hres _ _ _, hargs _ hold, hvars _, World.keptBut_mono (fun x hx => ⟨hx, .inr (.inl hx)⟩) (hb.frame (· ∈ before)), fun _ => ?_⟩
  refine ⟨?_, _, _, ([] ++ before) ++ [], ⟨[] ++ before, [], trodAll_append (hargs _ (fun _ _ => rfl)) (hres _ _ _), hvars _, rfl, ?_, ?_⟩, ?_⟩
  · intro j t r hj hv
    rw [hrt] at hj hv
    match j, hj, hv with
    | 0, hj, hv =>
      simp [Value.resultList] at hj hv
      subst hj; subst hv
      simp [Value.okWide, hb4, Cell.okWide, Cell.ok]
    | j + 1, hj, hv => simp at hj
  · intro b off hp
    have hin : MemPlace.cell b off ∈ before := by simpa using hp
    rw [hb.frozen (hlt _ hin)]
    exact hz b off hin
  · intro ha
    simpa using hn ha
  · intro x hx _
    simpa using hx
end
end Go.Sx
end
