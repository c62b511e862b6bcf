/- causewaylaw1.worth: a closed fact. -/
import Derived.Test.YtpjkiomccpjboaaGreatDoorOfR
namespace Go.Proofs.YtpjkiomccpjboaaGreatDoor
open Go Go.Sx

abbrev keyK : ByteArray := ByteArray.mk #[107]
abbrev opK : OpT := ⟨0, ByteArray.mk #[107], 1, ByteArray.mk #[120], 0, false, []⟩
abbrev comK : ComT := ⟨[1], 0, [opK]⟩
theorem nameK : nameOk keyK = true := by decide
theorem faultK : valFault keyK [comK] = ⟨0, -1⟩ := rfl
theorem opsK : opsOf keyK [comK] = [⟨opK, ⟨0, 1, 0⟩, 1⟩] := by
  simp [opsOf, sortDone, opsRaw, allDone, firsts, doneOf, dotOf, wsum]
theorem valK : Sx.valOf keyK [comK] = ⟨1, ByteArray.mk #[120], 0, []⟩ := by
  simp [Sx.valOf, opsK, kindOf, ofKey, kindL, lastText]
theorem worth {w : World} {S : Nat → Prop} {er : Nat → Addr} {eb : Nat → Array Value × TypeId} (hC : Rep w S .nilIface (dC er eb)) :
    Calls Tryz.prog 11 #[] w fun e w' => Ret [] w S w' e (.bool true) [] [] := by
  refine ep11 (args := []) (G := [(_, dC er eb)]) (by kernel_rfl) (.cons hC (.nil _ _)) ?_
  refine J_seq ?_
  refine J_reg mixed [.rd 0 [] 0 0] [] [0] (E1 := fun _ => [(0, .val (.bool false))]) (h1 := fun _ => []) (p1 := fun _ => []) (W1 := []) (by kernel_rfl) (fun _ => by kernel_rfl) (fun _ => trivial) (fun _ => ?_)
  refine J_seq ?_
  refine JR_begin mixed [(0, false), (1, true), (2, false), (3, true), (4, false), (5, false), (6, true), (7, true), (8, true), (9, false), (10, false), (11, true)] [] (by kernel_rfl) (by kernel_rfl) ?_
  refine JR_run (id := 1) (rest := [(5, false), (6, true), (7, true), (8, true), (9, false), (10, false), (11, true)]) [.wr 0 [] 0, .rd 1 [] 0 0, .wr 2 [] 0, .rd 3 [] 0 0, .wr 4 [] 0] [0, 8] (E1 := fun nu1 => [(0, .val (.bool false)), (8, .val (.slice (some (⟨nu1 2, 0, none⟩)) 1 1))]) (h1 := fun nu1 => [(nu1 0, .cells #[.int .i64 1] 3 (0, 0)), (nu1 1, .cells #[.int .i64 0, .string (ByteArray.mk #[107]), .int .i64 1, .string (ByteArray.mk #[120]), .int .i64 0, .bool false, .slice none 0 0] 24 (0, 0)), (nu1 2, .cells #[.slice (some (⟨nu1 0, 0, none⟩)) 1 1, .int .i64 0, .slice (some (⟨nu1 1, 0, none⟩)) 1 1] 28 (0, 0))]) (p1 := fun nu1 => []) (W1 := []) (fun _ => by kernel_rfl) (fun _ => trivial) (fun nu1 => ?_)

  refine JR_data (size := 1) 0 eI [(1 : Int)] 1 rfl (by kernel_rfl) (by decide) (by intro x _; rfl) (by simp) ⟨.inl ⟨rfl, rfl⟩, trivial⟩ ?_
  refine JR_data (size := 7) 0 eOp [opK] 1 rfl (by kernel_rfl) (by decide) (by intro x _; rfl) (by simp) ⟨.inl ⟨rfl, rfl⟩, ⟨.inl ⟨rfl, rfl⟩, ⟨.inl ⟨rfl, rfl⟩, ⟨.inl ⟨rfl, rfl⟩, ⟨.inl ⟨rfl, rfl⟩, ⟨.inl ⟨rfl, rfl⟩, ⟨.inr (.inr ⟨_, _, _, rfl, rfl⟩), trivial⟩⟩⟩⟩⟩⟩⟩ ?_
  refine JR_data (size := 3) 0 eCom [comK] 1 rfl (by kernel_rfl) (by decide) (by intro x _; rfl) (by simp) ⟨.inr (.inl (List.mem_of_getElem? (i := 1) rfl)), ⟨.inl ⟨rfl, rfl⟩, ⟨.inr (.inl (List.mem_of_getElem? (i := 2) rfl)), trivial⟩⟩⟩ ?_
  refine JR_callp [] 21 #[.string (ByteArray.mk #[107]), .slice (some (⟨nu1 2, 0, none⟩)) 1 1] (some 9) (by kernel_rfl) (fun w S hG => ?_)
  refine (vOfR (l := [comK]) (hG.at 0 rfl) (hG.at 3 rfl) (by simp) (by simp) (by simp) (by rw [opsK]; decide)).mono ?_
  rintro e1 w1 (⟨hc, _⟩ | ⟨hc, hR⟩)
  · exact absurd (by rw [faultK]) hc
  refine ⟨_, _, _, hR, ?_⟩
  rw [valK]
  try simp only [List.cons_append, List.nil_append, List.append_nil]
  refine JR_run (id := 1) (rest := []) [.rd 6 [] 0 0, .rd 7 [] 0 0, .rd 8 [] 0 0, .wr 9 [] 0, .wr 10 [.o 0 none, .o 0 none, .o 0 none, .o 0 none] 0, .rd 11 [] 0 0] [0, 1, 2] (E1 := fun nu2 => [(0, .val (.bool false)), (1, .val (.pointer (some (⟨nu2 0, 0, none⟩)))), (2, .val (.nilIface))]) (h1 := fun nu2 => [(nu2 0, .cells #[.int .i64 1, .string (ByteArray.mk #[120]), .int .i64 0, .slice none 0 0] 47 (0, 0))]) (p1 := fun nu2 => []) (W1 := []) (fun _ => by kernel_rfl) (fun _ => trivial) (fun nu2 => ?_)
  refine JR_end ?_
  refine J_seq ?_
  refine J_reg mixed [.rd 0 [] 0 0, .rd 1 [] 0 0, .rd 2 [] 0 0, .rd 3 [] 0 0, .rd 4 [.o 0 none] 0 0, .rd 5 [] 0 0, .rd 6 [] 0 0, .rd 7 [] 0 0, .rd 8 [] 0 0, .rd 9 [.o 0 none] 0 0, .rd 10 [] 0 0, .rd 11 [] 0 0, .rd 12 [] 0 0, .rd 13 [] 0 0, .rd 14 [.o 0 none] 0 0, .rd 15 [] 0 0, .rd 16 [] 0 0, .rd 17 [] 0 0, .rd 18 [] 0 0] [] [0] (E1 := fun _ => [(0, .val (.bool true))]) (h1 := fun _ => [(nu2 0, .cells #[.int .i64 1, .string (ByteArray.mk #[120]), .int .i64 0, .slice none 0 0] 47 (0, 0))]) (p1 := fun _ => []) (W1 := []) (by kernel_rfl) (fun _ => by kernel_rfl) (fun _ => trivial) (fun _ => ?_)
  refine J_return [[]] (.bool true) (by kernel_rfl) (fun a w s => ?_)
  exact s.ret (by simp) [] [] rfl rfl
end Go.Proofs.YtpjkiomccpjboaaGreatDoor
