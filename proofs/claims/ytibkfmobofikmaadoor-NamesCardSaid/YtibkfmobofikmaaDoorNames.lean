/- causewaylaw1.Names: a closed sentence, walked. -/
import Derived.Test.YtibkfmobofikmaaDoorFault
import Derived.Test.YtibkfmobofikmaaDoorSame
namespace Go.Proofs.YtibkfmobofikmaaDoor
open Go Go.Sx

theorem names {w0 : World} {S : Nat → Prop} {er : Nat → Addr} {eb : Nat → Array Value × TypeId} (hC : Rep w0 S .nilIface (dC er eb)) (hI : Inj er) :
    Calls Tryd.prog 8 #[] w0 fun e w' => Ret [] w0 S w' e (.bool true) [] [] := by
  refine ep8 (args := []) (G := [(_, dC er eb)]) (by kernel_rfl) (.cons hC (.nil _ _)) ?_
  refine J_stp (stp_all 0 [0, 1, 2, 3, 4, 5, 6, 7, 8, 9, 10, 11] rfl rfl) ?_
  refine J_glob 1 rfl (fun csg1 tyg1 fzg1 hglob1 => ?_)
  refine J_glob 2 rfl (fun csg2 tyg2 fzg2 hglob2 => ?_)
  refine J_glob 3 rfl (fun csg3 tyg3 fzg3 hglob3 => ?_)
  refine J_glob 4 rfl (fun csg4 tyg4 fzg4 hglob4 => ?_)
  refine J_glob 5 rfl (fun csg5 tyg5 fzg5 hglob5 => ?_)
  refine J_glob 6 rfl (fun csg6 tyg6 fzg6 hglob6 => ?_)
  refine J_glob 7 rfl (fun csg7 tyg7 fzg7 hglob7 => ?_)
  refine J_glob 8 rfl (fun csg8 tyg8 fzg8 hglob8 => ?_)
  refine J_glob 9 rfl (fun csg9 tyg9 fzg9 hglob9 => ?_)
  refine J_glob 10 rfl (fun csg10 tyg10 fzg10 hglob10 => ?_)
  refine J_glob 11 rfl (fun csg11 tyg11 fzg11 hglob11 => ?_)
  refine J_glob 12 rfl (fun csg12 tyg12 fzg12 hglob12 => ?_)
  try simp only [List.cons_append, List.nil_append, List.append_nil]
  refine J_seq ?_
  refine J_reg mixed [.rd 0 [] 0 0] [] [0] (E1 := fun _ => [(0, .val (.bool false))]) (h1 := fun _ => []) (p1 := fun _ => []) (W1 := []) (by kernel_rfl) (fun _ => by kernel_rfl) (fun _ => trivial) (fun _ => ?_)
  refine J_seq ?_
  refine J_reg mixed [.wr 0 [] 0, .rd 1 [] 0 0] [] [0, 1] (E1 := fun nu1 => [(0, .val (.bool false)), (1, .val (.slice (some (⟨nu1 0, 0, none⟩)) 17 17))]) (h1 := fun nu1 => [(nu1 0, .cells #[.int .i64 6, .int .i64 6, .int .i64 16, .int .i64 60, .int .i64 1099511627776, .int .i64 12, .int .i64 60, .int .i64 8, .int .i64 200, .int .i64 6000, .int .i64 3000, .int .i64 300, .int .i64 100, .int .i64 16, .int .i64 1, .int .i64 2, .int .i64 3] 3 (0, 0))]) (p1 := fun nu1 => []) (W1 := []) (by kernel_rfl) (fun _ => by kernel_rfl) (fun _ => trivial) (fun nu1 => ?_)
  refine J_seq ?_
  refine J_reg mixed [.wr 0 [] 0, .rd 1 [] 0 0] [] [0, 1, 2] (E1 := fun nu2 => [(0, .val (.bool false)), (1, .val (.slice (some (⟨nu1 0, 0, none⟩)) 17 17)), (2, .val (.slice (some (⟨nu2 0, 0, none⟩)) 17 17))]) (h1 := fun nu2 => [(nu1 0, .cells #[.int .i64 6, .int .i64 6, .int .i64 16, .int .i64 60, .int .i64 1099511627776, .int .i64 12, .int .i64 60, .int .i64 8, .int .i64 200, .int .i64 6000, .int .i64 3000, .int .i64 300, .int .i64 100, .int .i64 16, .int .i64 1, .int .i64 2, .int .i64 3] 3 (0, 0)), (nu2 0, .cells #[.int .i64 6, .int .i64 6, .int .i64 16, .int .i64 60, .int .i64 1099511627776, .int .i64 12, .int .i64 60, .int .i64 8, .int .i64 200, .int .i64 6000, .int .i64 3000, .int .i64 300, .int .i64 100, .int .i64 16, .int .i64 1, .int .i64 2, .int .i64 3] 3 (0, 0))]) (p1 := fun nu2 => []) (W1 := []) (by kernel_rfl) (fun _ => by kernel_rfl) (fun _ => trivial) (fun nu2 => ?_)
  refine J_seq ?_
  refine J_seq ?_
  refine J_data (size := 1) 0 eI [6, 6, 16, 60, 1099511627776, 12, 60, 8, 200, 6000, 3000, 300, 100, 16, 1, 2, 3] 17 rfl (by decide) (by intro x _; rfl) (by decide) ⟨.inl ⟨rfl, rfl⟩, ⟨.inl ⟨rfl, rfl⟩, ⟨.inl ⟨rfl, rfl⟩, ⟨.inl ⟨rfl, rfl⟩, ⟨.inl ⟨rfl, rfl⟩, ⟨.inl ⟨rfl, rfl⟩, ⟨.inl ⟨rfl, rfl⟩, ⟨.inl ⟨rfl, rfl⟩, ⟨.inl ⟨rfl, rfl⟩, ⟨.inl ⟨rfl, rfl⟩, ⟨.inl ⟨rfl, rfl⟩, ⟨.inl ⟨rfl, rfl⟩, ⟨.inl ⟨rfl, rfl⟩, ⟨.inl ⟨rfl, rfl⟩, ⟨.inl ⟨rfl, rfl⟩, ⟨.inl ⟨rfl, rfl⟩, ⟨.inl ⟨rfl, rfl⟩, trivial⟩⟩⟩⟩⟩⟩⟩⟩⟩⟩⟩⟩⟩⟩⟩⟩⟩ ?_
  refine J_data (size := 1) 0 eI [6, 6, 16, 60, 1099511627776, 12, 60, 8, 200, 6000, 3000, 300, 100, 16, 1, 2, 3] 17 rfl (by decide) (by intro x _; rfl) (by decide) ⟨.inl ⟨rfl, rfl⟩, ⟨.inl ⟨rfl, rfl⟩, ⟨.inl ⟨rfl, rfl⟩, ⟨.inl ⟨rfl, rfl⟩, ⟨.inl ⟨rfl, rfl⟩, ⟨.inl ⟨rfl, rfl⟩, ⟨.inl ⟨rfl, rfl⟩, ⟨.inl ⟨rfl, rfl⟩, ⟨.inl ⟨rfl, rfl⟩, ⟨.inl ⟨rfl, rfl⟩, ⟨.inl ⟨rfl, rfl⟩, ⟨.inl ⟨rfl, rfl⟩, ⟨.inl ⟨rfl, rfl⟩, ⟨.inl ⟨rfl, rfl⟩, ⟨.inl ⟨rfl, rfl⟩, ⟨.inl ⟨rfl, rfl⟩, ⟨.inl ⟨rfl, rfl⟩, trivial⟩⟩⟩⟩⟩⟩⟩⟩⟩⟩⟩⟩⟩⟩⟩⟩⟩ ?_
  try simp only [List.cons_append, List.nil_append, List.append_nil]
  refine JR_begin mixed [(0, true), (1, true), (2, false), (3, true)] [] (by kernel_rfl) (by kernel_rfl) ?_
  refine JR_run (id := 3) (rest := [(2, false), (3, true)]) [.rd 0 [] 0 0, .rd 1 [] 0 0] [0, 11, 12] (E1 := fun _ => [(0, .val (.bool false)), (11, .val (.slice (some (⟨nu1 0, 0, none⟩)) 17 17)), (12, .val (.slice (some (⟨nu2 0, 0, none⟩)) 17 17))]) (h1 := fun _ => []) (p1 := fun _ => []) (W1 := []) (fun _ => by kernel_rfl) (fun _ => trivial) (fun _ => ?_)
  refine JR_callp [] 16 #[.slice (some (⟨nu1 0, 0, none⟩)) 17 17, .slice (some (⟨nu2 0, 0, none⟩)) 17 17] (some 13) (by kernel_rfl) (fun w S hG => ?_)
  refine (sameInts (hG.at 13 rfl) (hG.at 14 rfl) (by decide)).mono ?_
  rintro e1 w1 hR
  rw [decide_eq_true rfl] at hR
  refine ⟨_, _, _, hR, ?_⟩
  try simp only [List.cons_append, List.nil_append, List.append_nil]
  refine JR_run (id := 3) (rest := []) [.rd 3 [] 0 0] [0, 14] (E1 := fun _ => [(0, .val (.bool false)), (14, .val (.bool false))]) (h1 := fun _ => []) (p1 := fun _ => []) (W1 := []) (fun _ => by kernel_rfl) (fun _ => trivial) (fun _ => ?_)
  refine JR_end ?_
  refine J_cond_f (by kernel_rfl) (by kernel_rfl) ?_
  refine J_skip ?_
  refine J_seq ?_
  refine J_reg mixed [.rd 0 [.r 0 (some (.iface 94 (.pointer (some (er 1)))))] 0 0, .rd 1 [.r 1 (some (.iface 94 (.pointer (some (er 2)))))] 0 0, .rd 2 [.r 2 (some (.iface 94 (.pointer (some (er 3)))))] 0 0, .rd 3 [.r 3 (some (.iface 94 (.pointer (some (er 4)))))] 0 0, .rd 4 [.r 4 (some (.iface 94 (.pointer (some (er 5)))))] 0 0, .rd 5 [.r 5 (some (.iface 94 (.pointer (some (er 6)))))] 0 0, .rd 6 [.r 6 (some (.iface 94 (.pointer (some (er 7)))))] 0 0, .rd 7 [.r 7 (some (.iface 94 (.pointer (some (er 8)))))] 0 0, .rd 8 [.r 8 (some (.iface 94 (.pointer (some (er 9)))))] 0 0, .rd 9 [.r 9 (some (.iface 94 (.pointer (some (er 10)))))] 0 0, .rd 10 [.r 10 (some (.iface 94 (.pointer (some (er 11)))))] 0 0, .rd 11 [.r 11 (some (.iface 94 (.pointer (some (er 12)))))] 0 0, .wr 12 [] 0, .rd 13 [] 0 0] [] [0, 3] (E1 := fun nu3 => [(0, .val (.bool false)), (3, .val (.slice (some (⟨nu3 0, 0, none⟩)) 12 12))]) (h1 := fun nu3 => [(nu3 0, .cells #[.iface 94 (.pointer (some (er 1))), .iface 94 (.pointer (some (er 2))), .iface 94 (.pointer (some (er 3))), .iface 94 (.pointer (some (er 4))), .iface 94 (.pointer (some (er 5))), .iface 94 (.pointer (some (er 6))), .iface 94 (.pointer (some (er 7))), .iface 94 (.pointer (some (er 8))), .iface 94 (.pointer (some (er 9))), .iface 94 (.pointer (some (er 10))), .iface 94 (.pointer (some (er 11))), .iface 94 (.pointer (some (er 12)))] 25 (0, 0))]) (p1 := fun nu3 => [csg1[(0 : Nat)]? = some (Value.iface (94 : Nat) (Value.pointer (some (er (1 : Nat))))), csg2[(0 : Nat)]? = some (Value.iface (94 : Nat) (Value.pointer (some (er (2 : Nat))))), csg3[(0 : Nat)]? = some (Value.iface (94 : Nat) (Value.pointer (some (er (3 : Nat))))), csg4[(0 : Nat)]? = some (Value.iface (94 : Nat) (Value.pointer (some (er (4 : Nat))))), csg5[(0 : Nat)]? = some (Value.iface (94 : Nat) (Value.pointer (some (er (5 : Nat))))), csg6[(0 : Nat)]? = some (Value.iface (94 : Nat) (Value.pointer (some (er (6 : Nat))))), csg7[(0 : Nat)]? = some (Value.iface (94 : Nat) (Value.pointer (some (er (7 : Nat))))), csg8[(0 : Nat)]? = some (Value.iface (94 : Nat) (Value.pointer (some (er (8 : Nat))))), csg9[(0 : Nat)]? = some (Value.iface (94 : Nat) (Value.pointer (some (er (9 : Nat))))), csg10[(0 : Nat)]? = some (Value.iface (94 : Nat) (Value.pointer (some (er (10 : Nat))))), csg11[(0 : Nat)]? = some (Value.iface (94 : Nat) (Value.pointer (some (er (11 : Nat))))), csg12[(0 : Nat)]? = some (Value.iface (94 : Nat) (Value.pointer (some (er (12 : Nat)))))]) (W1 := []) (by kernel_rfl) (fun _ => by kernel_rfl) (fun _ => ⟨hglob1, hglob2, hglob3, hglob4, hglob5, hglob6, hglob7, hglob8, hglob9, hglob10, hglob11, hglob12, trivial⟩) (fun nu3 => ?_)
  refine J_seq ?_
  refine J_seq ?_
  refine J_data (size := 1) 0 (eEr er) [1, 2, 3, 4, 5, 6, 7, 8, 9, 10, 11, 12] 12 rfl (by decide) (by intro x _; rfl) (by decide) ⟨.inl ⟨rfl, rfl⟩, ⟨.inl ⟨rfl, rfl⟩, ⟨.inl ⟨rfl, rfl⟩, ⟨.inl ⟨rfl, rfl⟩, ⟨.inl ⟨rfl, rfl⟩, ⟨.inl ⟨rfl, rfl⟩, ⟨.inl ⟨rfl, rfl⟩, ⟨.inl ⟨rfl, rfl⟩, ⟨.inl ⟨rfl, rfl⟩, ⟨.inl ⟨rfl, rfl⟩, ⟨.inl ⟨rfl, rfl⟩, ⟨.inl ⟨rfl, rfl⟩, trivial⟩⟩⟩⟩⟩⟩⟩⟩⟩⟩⟩⟩ ?_
  try simp only [List.cons_append, List.nil_append, List.append_nil]
  refine J_reg mixed [.rd 0 [] 0 0] [] [0, 3, 4] (E1 := fun _ => [(0, .val (.bool false)), (3, .val (.slice (some (⟨nu3 0, 0, none⟩)) 12 12)), (4, .val (.int .i64 0))]) (h1 := fun _ => []) (p1 := fun _ => []) (W1 := []) (by kernel_rfl) (fun _ => by kernel_rfl) (fun _ => trivial) (fun _ => ?_)
  refine J_block ?_
  refine J_loopx (fun i : Int => [(0, .val (.bool false)), (3, .val (.slice (some (⟨nu3 0, 0, none⟩)) 12 12)), (4, .val (.int .i64 i))]) (fun i : Int => []) (fun i : Int => []) (fun i : Int => [(.nilIface, (dC er eb)), (.slice (some (⟨nu3 0, 0, none⟩)) ((List.map (eEr er) [1, 2, 3, 4, 5, 6, 7, 8, 9, 10, 11, 12]).length) 12, (D.sl 1 (List.map (eEr er) [1, 2, 3, 4, 5, 6, 7, 8, 9, 10, 11, 12])))]) (fun i : Int => (12 - i).toNat) (fun i : Int => (0 ≤ i ∧ i ≤ 12)) 0 [0, 3, 4] [] [] [0, 15] ?_ (by kernel_rfl) rfl rfl rfl ?_
  · exact ⟨by omega, by omega⟩
  rintro i ⟨hi0, hi⟩
  refine J_seq ?_
  refine J_seq ?_
  refine J_reg mixed [.rd 0 [] 0 0, .rd 1 [] 0 0, .rd 2 [] 0 0, .rd 3 [] 0 0] [] [0, 3, 4, 31] (E1 := fun _ => [(0, .val (.bool false)), (3, .val (.slice (some (⟨nu3 0, 0, none⟩)) 12 12)), (4, .val (.int .i64 i)), (31, .val (.bool (decide (i < 12))))]) (h1 := fun _ => []) (p1 := fun _ => []) (W1 := []) (by kernel_rfl) (fun _ => by kernel_rfl) (fun _ => trivial) (fun _ => ?_)
  refine J_cond (t := decide (i < 12)) (by kernel_rfl) (by kernel_rfl) (fun hlt => ?_) (fun hlt => ?_)
  · have hlt2 : i < 12 := by simpa using hlt
    have hx := row12 hi0 hlt2
    refine J_read0 1 rfl i.toNat (map_at hx) (by kernel_rfl) (fun b1 off1 cs1 ty1 fz1 ha1 hrd1 => ?_)
    cases ha1
    have hrd1_0 := rd0 (hrd1 0 _ rfl)
    try simp only [List.cons_append, List.nil_append, List.append_nil]
    refine J_skip ?_
    refine J_seq ?_
    refine J_block ?_
    refine J_seq ?_
    refine JR_begin mixed [(0, true), (1, true), (2, true), (3, true), (4, true), (5, false), (6, true), (7, false), (8, true), (9, true), (10, true), (11, true), (12, true)] [] (by kernel_rfl) (by kernel_rfl) ?_
    refine JR_run (id := 9) (rest := [(7, false), (8, true), (9, true), (10, true), (11, true), (12, true)]) [.rd 0 [] 0 0, .rd 1 [] 0 0, .rd 2 [] 0 2, .rd 3 [.r 12 (some (.iface 94 (.pointer (some (er (i.toNat + 1))))))] 0 0, .rd 4 [] 0 0, .wr 5 [] 0, .rd 6 [] 0 0] [0, 3, 4, 41] (E1 := fun nu4 => [(0, .val (.bool false)), (3, .val (.slice (some (⟨nu3 0, 0, none⟩)) 12 12)), (4, .val (.int .i64 i)), (41, .val (.iface 53 (.pointer (some (⟨nu4 0, 0, none⟩)))))]) (h1 := fun nu4 => [(nu4 0, .cells #[.int .i64 7, .iface 94 (.pointer (some (er (i.toNat + 1))))] 55 (0, 0))]) (p1 := fun nu4 => [(0 : Int) ≤ i, i < (↑(12 : Nat) : Int), cs1[(0 : Nat) + i.toNat * (1 : Nat)]? = some (Value.iface (94 : TypeId) (Value.pointer (some (er (i.toNat + (1 : Nat))))))]) (W1 := []) (fun _ => by kernel_rfl) (fun _ => ⟨hi0, by omega, hrd1_0, trivial⟩) (fun nu4 => ?_)
    refine JR_share 0 rfl (by kernel_rfl) ?_
    refine JR_callp [] 32 #[.iface 53 (.pointer (some (⟨nu4 0, 0, none⟩)))] (some 42) (by kernel_rfl) (fun w S hG => ?_)
    refine (codeFault (hG.at 0 rfl) hI (k := i.toNat + 1) (by omega) (by omega) (ptr_of_obj rfl rfl (hG.at 2 rfl))).mono ?_
    rintro e2 w2 hR
    refine ⟨_, _, _, hR, ?_⟩
    try simp only [List.cons_append, List.nil_append, List.append_nil]
    refine JR_run (id := 9) (rest := []) [.rd 8 [] 0 0, .rd 9 [] 0 0, .rd 10 [] 0 0, .rd 11 [] 0 0, .rd 12 [] 0 0] [0, 3, 4, 5, 6] (E1 := fun _ => [(0, .val (.bool false)), (3, .val (.slice (some (⟨nu3 0, 0, none⟩)) 12 12)), (4, .val (.int .i64 i)), (5, .val (.int .i64 ((↑(i.toNat + 1) : Int)))), (6, .val (.int .i64 7))]) (h1 := fun _ => []) (p1 := fun _ => []) (W1 := []) (fun _ => by kernel_rfl) (fun _ => trivial) (fun _ => ?_)
    refine JR_end ?_
    refine J_seq ?_
    refine JR_begin mixed [(0, true), (1, true), (2, true), (3, true), (4, true), (5, true), (6, false), (7, true), (8, true), (9, true), (10, true), (11, true), (12, true), (13, true), (14, true), (15, true), (16, true), (17, true)] [] (by kernel_rfl) (by kernel_rfl) ?_
    refine JR_run (id := 10) (rest := [(6, false), (7, true), (8, true), (9, true), (10, true), (11, true), (12, true), (13, true), (14, true), (15, true), (16, true), (17, true)]) [.rd 0 [] 0 0, .rd 1 [] 0 0, .rd 2 [] 0 2, .rd 3 [.r 12 (some (.iface 94 (.pointer (some (er (i.toNat + 1))))))] 0 0, .rd 4 [] 0 0, .rd 5 [] 0 1] [0, 3, 4, 5, 6, 48, 50] (E1 := fun _ => [(0, .val (.bool false)), (3, .val (.slice (some (⟨nu3 0, 0, none⟩)) 12 12)), (4, .val (.int .i64 i)), (5, .val (.int .i64 ((↑(i.toNat + 1) : Int)))), (6, .val (.int .i64 7)), (48, .val (.iface 94 (.pointer (some (er (i.toNat + 1)))))), (50, .val (.int .i64 (i + 1)))]) (h1 := fun _ => []) (p1 := fun _ => [(0 : Int) ≤ i, i < (↑(12 : Nat) : Int), cs1[(0 : Nat) + i.toNat * (1 : Nat)]? = some (Value.iface (94 : TypeId) (Value.pointer (some (er (i.toNat + (1 : Nat)))))), IntKind.i64.wrap (i + (1 : Int)) = i + (1 : Int)]) (W1 := []) (fun _ => by kernel_rfl) (fun _ => ⟨hi0, by omega, hrd1_0, wrap_i64 (by omega) (by omega), trivial⟩) (fun _ => ?_)
    refine JR_callp [] 20 #[.iface 94 (.pointer (some (er (i.toNat + 1)))), .int .i64 (i + 1)] (some 51) (by kernel_rfl) (fun w S hG => ?_)
    refine (codedErr (hG.at 0 rfl) hI (k := i.toNat + 1) (by omega) (.inr ⟨by omega, rfl⟩)).mono ?_
    rintro e3 w3 hR
    rw [decide_eq_true (show ((i.toNat + 1 : Nat) : Int) = i + 1 by omega)] at hR
    have e5 : ((i.toNat + 1 : Nat) : Int) = i + 1 := by omega
    refine ⟨_, _, _, hR, ?_⟩
    try simp only [List.cons_append, List.nil_append, List.append_nil]
    refine JR_run (id := 10) (rest := []) [.rd 7 [] 0 0, .rd 8 [] 0 0, .rd 9 [] 0 0, .rd 10 [] 0 0, .rd 11 [] 0 1, .rd 12 [] 0 0, .rd 13 [] 0 0, .rd 14 [] 0 0, .rd 15 [] 2 0, .rd 16 [] 2 0, .rd 17 [] 0 3] [0, 3, 4, 5, 6, 62] (E1 := fun _ => [(0, .val (.bool false)), (3, .val (.slice (some (⟨nu3 0, 0, none⟩)) 12 12)), (4, .val (.int .i64 i)), (5, .val (.int .i64 ((↑(i.toNat + 1) : Int)))), (6, .val (.int .i64 7)), (62, .val (.bool ((↑(i.toNat + 1) : Int) != i + 1 || false)))]) (h1 := fun _ => []) (p1 := fun _ => [IntKind.i64.wrap (i + (1 : Int)) = i + (1 : Int)]) (W1 := []) (fun _ => by kernel_rfl) (fun _ => ⟨wrap_i64 (by omega) (by omega), trivial⟩) (fun _ => ?_)
    refine JR_end ?_
    refine J_condF ((↑(i.toNat + 1) : Int) != i + 1 || false) (by kernel_rfl) (by kernel_rfl) (by simp; omega) ?_
    refine J_skip ?_
    refine J_eb ?_
    refine J_reg mixed [.rd 0 [] 0 0, .rd 1 [] 0 1, .rd 2 [] 0 0] [] [0, 3, 4, 5, 6] (E1 := fun _ => [(0, .val (.bool false)), (3, .val (.slice (some (⟨nu3 0, 0, none⟩)) 12 12)), (4, .val (.int .i64 (i + 1))), (5, .val (.int .i64 ((↑(i.toNat + 1) : Int)))), (6, .val (.int .i64 7))]) (h1 := fun _ => []) (p1 := fun _ => [IntKind.i64.wrap (i + (1 : Int)) = i + (1 : Int)]) (W1 := []) (by kernel_rfl) (fun _ => by kernel_rfl) (fun _ => ⟨wrap_i64 (by omega) (by omega), trivial⟩) (fun _ => ?_)
    refine J_backx (i + 1) [0, 3, 4] [] [] [0, 1] ?_ ?_ (by kernel_rfl) rfl rfl rfl
    · exact ⟨by omega, by omega⟩
    · omega
  · refine J_exit rfl ?_
    refine J_seq ?_
    refine JR_begin mixed [(0, false), (1, false), (2, true), (3, true), (4, true), (5, true), (6, true)] [] (by kernel_rfl) (by kernel_rfl) ?_
    refine JR_callp [] 33 #[.string (ByteArray.mk #[97, 110, 111, 116, 104, 101, 114, 32, 111, 110, 101])] (some 64) (by kernel_rfl) (fun w S hG => ?_)
    have hlt3 : ∀ j, 1 ≤ j → j ≤ 12 → (er j).block < w.heap.size := fun j h1 h2 => (Array.getElem?_eq_some_iff.1 (blk_of ((hG.at 0 rfl).part _ (eO_mem er eb (k := j) h1 h2)))).1
    refine (newErr (S := S)).mono ?_
    rintro e4 w4 ⟨b, hR, hb⟩
    have hne : ∀ j, 1 ≤ j → j ≤ 12 → (⟨b, 0, none⟩ : Addr) ≠ er j := fun j h1 h2 he => by
      have := hlt3 j h1 h2
      rw [← he] at this
      simp at this
      omega
    refine ⟨_, _, _, hR, ?_⟩
    try simp only [List.cons_append, List.nil_append, List.append_nil]
    refine JR_callp [] 32 #[.iface 94 (.pointer (some (⟨b, 0, none⟩)))] (some 65) (by kernel_rfl) (fun w S hG => ?_)
    refine (codeOther (hG.at 0 rfl) (hG.at 2 rfl) hne).mono ?_
    rintro e6 w6 hR
    refine ⟨_, _, _, hR, ?_⟩
    try simp only [List.cons_append, List.nil_append, List.append_nil]
    refine JR_run (id := 12) (rest := []) [.rd 2 [] 0 0, .rd 3 [] 0 0, .rd 4 [] 0 0, .rd 5 [] 0 0, .rd 6 [] 0 0] [0, 7, 8] (E1 := fun _ => [(0, .val (.bool false)), (7, .val (.int .i64 (-1))), (8, .val (.int .i64 (-1)))]) (h1 := fun _ => []) (p1 := fun _ => []) (W1 := []) (fun _ => by kernel_rfl) (fun _ => trivial) (fun _ => ?_)
    refine JR_end ?_
    refine J_seq ?_
    refine JR_begin mixed [(0, false), (1, true), (2, true), (3, true), (4, true), (5, true), (6, true), (7, true), (8, true), (9, true)] [] (by kernel_rfl) (by kernel_rfl) ?_
    refine JR_callp [] 20 #[.nilIface, .int .i64 0] (some 68) (by kernel_rfl) (fun w S hG => ?_)
    refine (codedErr (hG.at 0 rfl) hI (k := 0) (by omega) (.inl ⟨rfl, rfl⟩)).mono ?_
    rintro e7 w7 hR
    rw [decide_eq_true (show ((0 : Nat) : Int) = 0 by omega)] at hR
    refine ⟨_, _, _, hR, ?_⟩
    try simp only [List.cons_append, List.nil_append, List.append_nil]
    refine JR_run (id := 13) (rest := []) [.rd 1 [] 0 0, .rd 2 [] 0 0, .rd 3 [] 0 0, .rd 4 [] 0 0, .rd 5 [] 0 0, .rd 6 [] 0 0, .rd 7 [] 0 0, .rd 8 [] 0 0, .rd 9 [] 0 0] [0] (E1 := fun _ => [(0, .val (.bool true))]) (h1 := fun _ => []) (p1 := fun _ => []) (W1 := []) (fun _ => by kernel_rfl) (fun _ => trivial) (fun _ => ?_)
    refine JR_end ?_
    refine J_return [[]] (.bool true) (by kernel_rfl) (fun a w s => ?_)
    exact s.ret (by simp) [] [] rfl rfl
end Go.Proofs.YtibkfmobofikmaaDoor
