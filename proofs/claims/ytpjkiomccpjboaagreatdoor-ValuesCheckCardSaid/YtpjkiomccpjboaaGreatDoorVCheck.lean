/- causewaylaw1.ValuesCheck, walked. -/
import Derived.Test.YtpjkiomccpjboaaGreatDoorComErr2
import Derived.Test.YtpjkiomccpjboaaGreatDoorWorth
import Derived.Test.YtpjkiomccpjboaaGreatDoorMsg2
namespace Go.Proofs.YtpjkiomccpjboaaGreatDoor
open Go Go.Sx

theorem faultedErr {w : World} {S : Nat → Prop} {er : Nat → Addr} {eb : Nat → Array Value × TypeId} {k : Nat} {a : Int} {v : Value} (hC : Rep w S .nilIface (dC er eb)) (hI : Inj er) (hk : k ≤ 12) (hv : ErrIs 243 er k v) (ha : a = -1) :
    Calls Tryz.prog 16 #[v, .agg #[.int .i64 k, .int .i64 a]] w fun e w' => Ret [] w S w' e (.bool true) [] [] := by
  subst ha
  have hv1 : v.oneCell' = true := by rcases hv with ⟨_, rfl⟩ | ⟨_, rfl⟩ <;> rfl
  refine ep16 (args := [v, .agg #[.int .i64 k, .int .i64 (-1)]]) (G := [(_, dC er eb)]) (by kernel_rfl) (.cons hC (.nil _ _)) ?_
  refine J_seq ?_
  refine J_reg mixed [.wr 0 [] 0, .rd 1 [] 0 0] [] [0, 3, 4] (E1 := fun nu1 => [(0, .val (v)), (3, .val (.pointer (some (⟨nu1 0, 0, none⟩)))), (4, .val (.bool false))]) (h1 := fun nu1 => [(nu1 0, .cells #[.int .i64 (↑k : Int), .int .i64 (-1)] 40 (0, 0))]) (p1 := fun nu1 => []) (W1 := []) (by kernel_rfl) (fun _ => by kernel_rfl) (fun _ => trivial) (fun nu1 => ?_)
  refine J_seq ?_
  refine JR_begin mixed [(0, true), (1, false), (2, true), (3, true), (4, true), (5, true), (6, true)] [] (by kernel_rfl) (by kernel_rfl) ?_
  refine JR_run (id := 1) (rest := [(1, false), (2, true), (3, true), (4, true), (5, true), (6, true)]) [.rd 0 [] 0 0] [3, 4, 8] (E1 := fun _ => [(3, .val (.pointer (some (⟨nu1 0, 0, none⟩)))), (4, .val (.bool false)), (8, .val (v))]) (h1 := fun _ => [(nu1 0, .cells #[.int .i64 (↑k : Int), .int .i64 (-1)] 40 (0, 0))]) (p1 := fun _ => []) (W1 := []) (fun _ => by kernel_rfl) (fun _ => trivial) (fun _ => ?_)
  refine JR_callp [] 53 #[v] (some 9) (by kernel_rfl) (fun w S hG => ?_)
  refine (codeErr (hG.at 0 rfl) hI hk hv).mono ?_
  rintro e1 w1 hR
  refine ⟨_, _, _, hR, ?_⟩

  by_cases h0 : k = 0
  · subst h0
    try simp only [List.cons_append, List.nil_append, List.append_nil]
    refine JR_run (id := 1) (rest := []) [.rd 2 [] 0 0, .rd 3 [] 0 0, .rd 4 [] 0 0, .rd 5 [] 0 0, .rd 6 [] 0 0] [3, 4, 5, 6] (E1 := fun _ => [(3, .val (.pointer (some (⟨nu1 0, 0, none⟩)))), (4, .val (.bool false)), (5, .val (.int .i64 0)), (6, .val (.int .i64 (-1)))]) (h1 := fun _ => [(nu1 0, .cells #[.int .i64 0, .int .i64 (-1)] 40 (0, 0))]) (p1 := fun _ => []) (W1 := []) (fun _ => by kernel_rfl) (fun _ => trivial) (fun _ => ?_)
    refine JR_end ?_
    refine J_seq ?_
    refine J_reg mixed [.rd 0 [] 0 0, .rd 1 [] 0 0, .rd 2 [.o 0 none] 0 0, .rd 3 [] 0 0, .rd 4 [] 0 0, .rd 5 [] 0 0, .rd 6 [] 0 0, .rd 7 [] 0 0, .rd 8 [] 1 0, .rd 9 [] 1 0, .rd 10 [] 1 0, .rd 11 [] 1 0, .rd 12 [] 0 0, .rd 13 [] 0 0, .rd 14 [] 0 0] [] [4] (E1 := fun _ => [(4, .val (.bool true))]) (h1 := fun _ => [(nu1 0, .cells #[.int .i64 0, .int .i64 (-1)] 40 (0, 0))]) (p1 := fun _ => []) (W1 := []) (by kernel_rfl) (fun _ => by kernel_rfl) (fun _ => trivial) (fun _ => ?_)
    refine J_return [[]] (.bool true) (by kernel_rfl) (fun a w s => ?_)
    exact s.ret (by simp) [] [] rfl rfl
  · try simp only [List.cons_append, List.nil_append, List.append_nil]
    refine JR_run (id := 1) (rest := []) [.rd 2 [] 0 0, .rd 3 [] 0 0, .rd 4 [] 0 0, .rd 5 [] 0 0, .rd 6 [] 0 0] [3, 4, 5, 6] (E1 := fun _ => [(3, .val (.pointer (some (⟨nu1 0, 0, none⟩)))), (4, .val (.bool false)), (5, .val (.int .i64 (↑k : Int))), (6, .val (.int .i64 (-1)))]) (h1 := fun _ => [(nu1 0, .cells #[.int .i64 (↑k : Int), .int .i64 (-1)] 40 (0, 0))]) (p1 := fun _ => []) (W1 := []) (fun _ => by kernel_rfl) (fun _ => trivial) (fun _ => ?_)
    refine JR_end ?_
    refine J_seq ?_
    refine J_reg mixed [.rd 0 [] 0 0, .rd 1 [] 0 0, .rd 2 [.o 0 none] 0 0, .rd 3 [] 0 6, .rd 4 [] 0 0, .rd 5 [] 0 0, .rd 6 [] 0 7, .rd 7 [] 0 0, .rd 8 [] 0 0, .rd 9 [] 0 0, .rd 10 [.o 0 none] 0 0, .rd 11 [] 0 0, .rd 12 [] 0 0, .rd 13 [] 0 0, .rd 14 [] 0 0] [] [4] (E1 := fun _ => [(4, .val (.bool true))]) (h1 := fun _ => [(nu1 0, .cells #[.int .i64 (↑k : Int), .int .i64 (-1)] 40 (0, 0))]) (p1 := fun _ => [((↑k : Int) == (↑k : Int)) = true, ((↑k : Int) == (0 : Int)) = false]) (W1 := []) (by kernel_rfl) (fun _ => by kernel_rfl) (fun _ => ⟨by simp, by simp; omega, trivial⟩) (fun _ => ?_)
    refine J_return [[]] (.bool true) (by kernel_rfl) (fun a w s => ?_)
    exact s.ret (by simp) [] [] rfl rfl
theorem faultedAt {w : World} {S : Nat → Prop} {er : Nat → Addr} {eb : Nat → Array Value × TypeId} {k pb : Nat} {at' : Int} (hC : Rep w S .nilIface (dC er eb)) (hI : Inj er) (h1 : 1 ≤ k) (hk : k ≤ 12) (hp : Rep w S (.pointer (some ⟨pb, 0, none⟩)) (.ptr [.v (.int .i64 at'), .v (.iface 243 (.pointer (some (er k))))])) :
    Calls Tryz.prog 16 #[.iface 102 (.pointer (some ⟨pb, 0, none⟩)), .agg #[.int .i64 k, .int .i64 at']] w fun e w' => Ret [] w S w' e (.bool true) [] [] := by
  refine ep16 (args := [.iface 102 (.pointer (some ⟨pb, 0, none⟩)), .agg #[.int .i64 k, .int .i64 at']]) (G := [(_, dC er eb), (_, .ptr [.v (.int .i64 at'), .v (.iface 243 (.pointer (some (er k))))])]) (by kernel_rfl) (.cons hC (.cons hp (.nil _ _))) ?_
  refine J_seq ?_
  refine J_reg mixed [.wr 0 [] 0, .rd 1 [] 0 0] [] [0, 3, 4] (E1 := fun nu1 => [(0, .val (.iface 102 (.pointer (some (⟨pb, 0, none⟩))))), (3, .val (.pointer (some (⟨nu1 0, 0, none⟩)))), (4, .val (.bool false))]) (h1 := fun nu1 => [(nu1 0, .cells #[.int .i64 (↑k : Int), .int .i64 at'] 40 (0, 0))]) (p1 := fun nu1 => []) (W1 := []) (by kernel_rfl) (fun _ => by kernel_rfl) (fun _ => trivial) (fun nu1 => ?_)
  refine J_seq ?_
  refine JR_begin mixed [(0, true), (1, false), (2, true), (3, true), (4, true), (5, true), (6, true)] [] (by kernel_rfl) (by kernel_rfl) ?_
  refine JR_run (id := 1) (rest := [(1, false), (2, true), (3, true), (4, true), (5, true), (6, true)]) [.rd 0 [] 0 0] [3, 4, 8] (E1 := fun _ => [(3, .val (.pointer (some (⟨nu1 0, 0, none⟩)))), (4, .val (.bool false)), (8, .val (.iface 102 (.pointer (some (⟨pb, 0, none⟩)))))]) (h1 := fun _ => [(nu1 0, .cells #[.int .i64 (↑k : Int), .int .i64 at'] 40 (0, 0))]) (p1 := fun _ => []) (W1 := []) (fun _ => by kernel_rfl) (fun _ => trivial) (fun _ => ?_)
  refine JR_callp [] 53 #[.iface 102 (.pointer (some (⟨pb, 0, none⟩)))] (some 9) (by kernel_rfl) (fun w S hG => ?_)
  refine (codeFault (hG.at 0 rfl) hI h1 hk (hG.at 1 rfl)).mono ?_
  rintro e1 w1 hR
  refine ⟨_, _, _, hR, ?_⟩
  have h0 : ¬ k = 0 := by omega
  try simp only [List.cons_append, List.nil_append, List.append_nil]
  refine JR_run (id := 1) (rest := []) [.rd 2 [] 0 0, .rd 3 [] 0 0, .rd 4 [] 0 0, .rd 5 [] 0 0, .rd 6 [] 0 0] [3, 4, 5, 6] (E1 := fun _ => [(3, .val (.pointer (some (⟨nu1 0, 0, none⟩)))), (4, .val (.bool false)), (5, .val (.int .i64 (↑k : Int))), (6, .val (.int .i64 at'))]) (h1 := fun _ => [(nu1 0, .cells #[.int .i64 (↑k : Int), .int .i64 at'] 40 (0, 0))]) (p1 := fun _ => []) (W1 := []) (fun _ => by kernel_rfl) (fun _ => trivial) (fun _ => ?_)
  refine JR_end ?_
  refine J_seq ?_
  refine J_reg mixed [.rd 0 [] 0 0, .rd 1 [] 0 0, .rd 2 [.o 0 none] 0 0, .rd 3 [] 0 6, .rd 4 [] 0 0, .rd 5 [] 0 0, .rd 6 [] 0 7, .rd 7 [] 0 0, .rd 8 [] 0 0, .rd 9 [] 0 0, .rd 10 [.o 0 none] 0 0, .rd 11 [] 0 6, .rd 12 [] 0 0, .rd 13 [] 0 0, .rd 14 [] 0 0] [] [4] (E1 := fun _ => [(4, .val (.bool true))]) (h1 := fun _ => [(nu1 0, .cells #[.int .i64 (↑k : Int), .int .i64 at'] 40 (0, 0))]) (p1 := fun _ => [((↑k : Int) == (↑k : Int)) = true, ((↑k : Int) == (0 : Int)) = false, (at' == at') = true]) (W1 := []) (by kernel_rfl) (fun _ => by kernel_rfl) (fun _ => ⟨by simp, by simp; omega, by simp, trivial⟩) (fun _ => ?_)
  refine J_return [[]] (.bool true) (by kernel_rfl) (fun a w s => ?_)
  exact s.ret (by simp) [] [] rfl rfl
end Go.Proofs.YtpjkiomccpjboaaGreatDoor
namespace Go.Proofs.YtpjkiomccpjboaaGreatDoor
open Go Go.Sx

theorem heavyC_cases (c : ComT) : heavyC c = 0 ∨ heavyC c = 1 := by
  unfold heavyC
  split
  · exact .inr rfl
  · split
    · exact .inr rfl
    · exact .inl rfl
theorem heavyC_len {c : ComT} (h : heavyC c = 0) : c.when.length ≤ 20 ∧ c.ops.length ≤ 20 ∧ ∀ o ∈ c.ops, o.dots.length ≤ 70 := by
  unfold heavyC at h
  split at h
  · cases h
  · split at h
    · cases h
    · rename_i h1 h2
      refine ⟨by omega, by omega, fun o ho => ?_⟩
      have h3 : heavyOp o = false := by
        cases h4 : heavyOp o with
        | false => rfl
        | true => exact absurd (List.any_eq_true.2 ⟨o, ho, h4⟩) h2
      simp [heavyOp] at h3
      omega
theorem valuesCheck {w : World} {S : Nat → Prop} {er : Nat → Addr} {eb : Nat → Array Value × TypeId} {o : OpT} {p : Int} {c : ComT} {a a1 a2 : Option Addr} {n cc n1 c1 n2 c2 : Nat} (hC : Rep w S .nilIface (dC er eb)) (hI : Inj er) (ho : Rep w S (.slice a n cc) (.sl 3 (o.dots.map eDot))) (h1 : Rep w S (.slice a1 n1 c1) (dInts c.when)) (h2 : Rep w S (.slice a2 n2 c2) (.sl 7 (c.ops.map eOp))) :
    Calls Tryz.prog 3 #[opA o (.slice a n cc), .int .i64 p, .agg #[.slice a1 n1 c1, .int .i64 c.place, .slice a2 n2 c2]] w fun e w' => Ret [] w S w' e (.bool true) [] [] := by
  obtain rfl := rep_ints_len h1
  have e1 := ho.slen
  rw [List.length_map] at e1
  subst e1
  have e2 := h2.slen
  rw [List.length_map] at e2
  subst e2
  refine ep3 (args := [opA o (.slice a o.dots.length cc), .int .i64 p, .agg #[.slice a1 c.when.length c1, .int .i64 c.place, .slice a2 c.ops.length c2]]) (S := S) (G := [(_, dC er eb), (_, .sl 3 (o.dots.map eDot)), (_, dInts c.when), (_, .sl 7 (c.ops.map eOp)), (.slice none 0 0, dInts [])]) (by kernel_rfl) (.cons hC (.cons ho (.cons h1 (.cons h2 (.cons .nil (.nil _ _)))))) ?_
  refine J_stp (stp_accm eDot 65 3) ?_
  try simp only [List.cons_append, List.nil_append, List.append_nil]
  refine J_seq ?_
  refine J_reg mixed [.wr 0 [] 0, .wr 1 [] 0, .rd 2 [] 0 0] [] [1, 3, 5, 6] (E1 := fun nu1 => [(1, .val (.int .i64 p)), (3, .val (.pointer (some (⟨nu1 0, 0, none⟩)))), (5, .val (.pointer (some (⟨nu1 1, 0, none⟩)))), (6, .val (.bool false))]) (h1 := fun nu1 => [(nu1 0, .cells #[.int .i64 o.no, .string o.key, .int .i64 o.kind, .string o.text, .int .i64 o.n, .bool o.remove, .slice a o.dots.length cc] 24 (0, 0)), (nu1 1, .cells #[.slice a1 c.when.length c1, .int .i64 c.place, .slice a2 c.ops.length c2] 28 (0, 0))]) (p1 := fun nu1 => []) (W1 := []) (by kernel_rfl) (fun _ => by kernel_rfl) (fun _ => trivial) (fun nu1 => ?_)
  refine J_seq ?_
  refine JR_begin mixed [(0, false), (1, true)] [] (by kernel_rfl) (by kernel_rfl) ?_
  refine JR_callp [] 11 #[] (some 10) (by kernel_rfl) (fun w S hG => ?_)
  refine (worth (hG.at 0 rfl)).mono ?_
  rintro e1 w1 hR
  refine ⟨_, _, _, hR, ?_⟩
  try simp only [List.cons_append, List.nil_append, List.append_nil]
  refine JR_run (id := 1) (rest := []) [.rd 1 [] 0 0] [1, 3, 5, 6, 7] (E1 := fun _ => [(1, .val (.int .i64 p)), (3, .val (.pointer (some (⟨nu1 0, 0, none⟩)))), (5, .val (.pointer (some (⟨nu1 1, 0, none⟩)))), (6, .val (.bool false)), (7, .val (.bool true))]) (h1 := fun _ => [(nu1 0, .cells #[.int .i64 o.no, .string o.key, .int .i64 o.kind, .string o.text, .int .i64 o.n, .bool o.remove, .slice a o.dots.length cc] 24 (0, 0)), (nu1 1, .cells #[.slice a1 c.when.length c1, .int .i64 c.place, .slice a2 c.ops.length c2] 28 (0, 0))]) (p1 := fun _ => []) (W1 := []) (fun _ => by kernel_rfl) (fun _ => trivial) (fun _ => ?_)
  refine JR_end ?_
  refine J_seq ?_
  refine J_seq ?_
  refine JR_begin mixed [(0, true), (1, true), (2, true), (3, true), (4, false), (5, true), (6, false), (7, true), (8, true), (9, true), (10, true), (11, false), (12, true), (13, true)] [] (by kernel_rfl) (by kernel_rfl) ?_
  refine JR_run (id := 2) (rest := [(6, false), (7, true), (8, true), (9, true), (10, true), (11, false), (12, true), (13, true)]) [.rd 0 [] 0 0, .rd 1 [] 0 0, .rd 2 [] 0 0, .rd 3 [.o 0 none, .o 0 none, .o 0 none, .o 0 none, .o 0 none, .o 0 none, .o 0 none] 0 0, .wr 4 [] 0, .rd 5 [] 0 0] [1, 3, 5, 6, 7, 13, 16] (E1 := fun nu2 => [(1, .val (.int .i64 p)), (3, .val (.pointer (some (⟨nu1 0, 0, none⟩)))), (5, .val (.pointer (some (⟨nu1 1, 0, none⟩)))), (6, .val (.bool false)), (7, .val (.bool true)), (13, .val (.bool false)), (16, .val (.agg #[.slice none 0 0, .int .i64 0, .slice (some (⟨nu2 0, 0, none⟩)) 1 1]))]) (h1 := fun nu2 => [(nu1 0, .cells #[.int .i64 o.no, .string o.key, .int .i64 o.kind, .string o.text, .int .i64 o.n, .bool o.remove, .slice a o.dots.length cc] 24 (0, 0)), (nu1 1, .cells #[.slice a1 c.when.length c1, .int .i64 c.place, .slice a2 c.ops.length c2] 28 (0, 0)), (nu2 0, .cells #[.int .i64 o.no, .string o.key, .int .i64 o.kind, .string o.text, .int .i64 o.n, .bool o.remove, .slice a o.dots.length cc] 24 (0, 0))]) (p1 := fun nu2 => []) (W1 := []) (fun _ => by kernel_rfl) (fun _ => trivial) (fun nu2 => ?_)

  refine JR_data (size := 7) 2 eOp [o] 1 rfl (by kernel_rfl) (by decide) (by intro x _; rfl) (by simp) ⟨.inl ⟨rfl, rfl⟩, ⟨.inl ⟨rfl, rfl⟩, ⟨.inl ⟨rfl, rfl⟩, ⟨.inl ⟨rfl, rfl⟩, ⟨.inl ⟨rfl, rfl⟩, ⟨.inl ⟨rfl, rfl⟩, ⟨.inr (.inl (List.mem_of_getElem? (i := 1) rfl)), trivial⟩⟩⟩⟩⟩⟩⟩ ?_
  refine JR_callp [] 12 #[.agg #[.slice none 0 0, .int .i64 0, .slice (some (⟨nu2 0, 0, none⟩)) 1 1]] (some 17) (by kernel_rfl) (fun w S hG => ?_)
  refine (heavyCommit (c := ⟨[], 0, [o]⟩) (hG.at 4 rfl) (hG.at 5 rfl)).mono ?_
  rintro e1 w1 hR
  refine ⟨_, _, _, hR, ?_⟩
  rcases heavyC_cases ⟨[], 0, [o]⟩ with hv0 | hv0
  · rw [hv0]
    try simp only [List.cons_append, List.nil_append, List.append_nil]
    refine JR_run (id := 2) (rest := [(11, false), (12, true), (13, true)]) [.rd 7 [] 0 0, .rd 8 [] 0 0, .rd 9 [] 0 0, .rd 10 [.o 1 none, .o 1 none, .o 1 none] 0 0] [1, 3, 5, 6, 7, 20, 21] (E1 := fun _ => [(1, .val (.int .i64 p)), (3, .val (.pointer (some (⟨nu1 0, 0, none⟩)))), (5, .val (.pointer (some (⟨nu1 1, 0, none⟩)))), (6, .val (.bool false)), (7, .val (.bool true)), (20, .val (.bool false)), (21, .val (.agg #[.slice a1 c.when.length c1, .int .i64 c.place, .slice a2 c.ops.length c2]))]) (h1 := fun _ => [(nu1 0, .cells #[.int .i64 o.no, .string o.key, .int .i64 o.kind, .string o.text, .int .i64 o.n, .bool o.remove, .slice a o.dots.length cc] 24 (0, 0)), (nu1 1, .cells #[.slice a1 c.when.length c1, .int .i64 c.place, .slice a2 c.ops.length c2] 28 (0, 0))]) (p1 := fun _ => []) (W1 := []) (fun _ => by kernel_rfl) (fun _ => trivial) (fun _ => ?_)
    refine JR_callp [] 12 #[.agg #[.slice a1 c.when.length c1, .int .i64 c.place, .slice a2 c.ops.length c2]] (some 22) (by kernel_rfl) (fun w S hG => ?_)
    refine (heavyCommit (c := c) (hG.at 2 rfl) (hG.at 3 rfl)).mono ?_
    rintro e2 w2 hR
    refine ⟨_, _, _, hR, ?_⟩
    rcases heavyC_cases c with hv1 | hv1
    · rw [hv1]
      have hlo : o.dots.length ≤ 70 := (heavyC_len hv0).2.2 o (by simp)
      obtain ⟨hl1, hl2, hl3⟩ := heavyC_len hv1
      try simp only [List.cons_append, List.nil_append, List.append_nil]
      refine JR_run (id := 2) (rest := []) [.rd 12 [] 0 0, .rd 13 [] 0 0] [1, 3, 5, 6, 7, 24] (E1 := fun _ => [(1, .val (.int .i64 p)), (3, .val (.pointer (some (⟨nu1 0, 0, none⟩)))), (5, .val (.pointer (some (⟨nu1 1, 0, none⟩)))), (6, .val (.bool false)), (7, .val (.bool true)), (24, .val (.bool false))]) (h1 := fun _ => [(nu1 0, .cells #[.int .i64 o.no, .string o.key, .int .i64 o.kind, .string o.text, .int .i64 o.n, .bool o.remove, .slice a o.dots.length cc] 24 (0, 0)), (nu1 1, .cells #[.slice a1 c.when.length c1, .int .i64 c.place, .slice a2 c.ops.length c2] 28 (0, 0))]) (p1 := fun _ => []) (W1 := []) (fun _ => by kernel_rfl) (fun _ => trivial) (fun _ => ?_)
      refine JR_end ?_
      refine J_cond_f (by kernel_rfl) (by kernel_rfl) ?_
      refine J_skip ?_
      refine J_seq ?_
      refine J_reg mixed [.rd 0 [] 0 0] [] [1, 3, 5, 6, 8] (E1 := fun _ => [(1, .val (.int .i64 p)), (3, .val (.pointer (some (⟨nu1 0, 0, none⟩)))), (5, .val (.pointer (some (⟨nu1 1, 0, none⟩)))), (6, .val (.bool false)), (8, .val (.slice none 0 0))]) (h1 := fun _ => [(nu1 0, .cells #[.int .i64 o.no, .string o.key, .int .i64 o.kind, .string o.text, .int .i64 o.n, .bool o.remove, .slice a o.dots.length cc] 24 (0, 0)), (nu1 1, .cells #[.slice a1 c.when.length c1, .int .i64 c.place, .slice a2 c.ops.length c2] 28 (0, 0))]) (p1 := fun _ => []) (W1 := []) (by kernel_rfl) (fun _ => by kernel_rfl) (fun _ => trivial) (fun _ => ?_)
      refine J_seq ?_
      refine J_reg mixed [.rd 0 [.o 0 none, .o 0 none, .o 0 none, .o 0 none, .o 0 none, .o 0 none, .o 0 none] 0 0, .wr 1 [] 0, .wr 2 [.o 2 none, .o 2 none, .o 2 none, .o 2 none, .o 2 none, .o 2 none, .o 2 none] 0] [(2, [])] [1, 3, 5, 6, 8, 9] (E1 := fun nu3 => [(1, .val (.int .i64 p)), (3, .val (.pointer (some (⟨nu1 0, 0, none⟩)))), (5, .val (.pointer (some (⟨nu1 1, 0, none⟩)))), (6, .val (.bool false)), (8, .val (.slice none 0 0)), (9, .val (.pointer (some (⟨nu3 0, 0, none⟩))))]) (h1 := fun nu3 => [(nu1 0, .cells #[.int .i64 o.no, .string o.key, .int .i64 o.kind, .string o.text, .int .i64 o.n, .bool o.remove, .slice a o.dots.length cc] 24 (0, 0)), (nu1 1, .cells #[.slice a1 c.when.length c1, .int .i64 c.place, .slice a2 c.ops.length c2] 28 (0, 0)), (nu3 0, .cells #[.int .i64 o.no, .string o.key, .int .i64 o.kind, .string o.text, .int .i64 o.n, .bool o.remove, .slice a o.dots.length cc] 24 (0, 0))]) (p1 := fun nu3 => []) (W1 := []) (by kernel_rfl) (fun _ => by kernel_rfl) (fun _ => trivial) (fun nu3 => ?_)
      refine J_seq ?_
      refine JR_begin mixed [(0, true), (1, true), (2, true), (3, false), (4, true), (5, false)] [] (by kernel_rfl) (by kernel_rfl) ?_
      refine JR_run (id := 6) (rest := [(3, false), (4, true), (5, false)]) [.rd 0 [] 0 0, .rd 1 [] 0 0, .rd 2 [.o 0 none] 0 0] [1, 3, 5, 6, 9, 27, 29] (E1 := fun _ => [(1, .val (.int .i64 p)), (3, .val (.pointer (some (⟨nu1 0, 0, none⟩)))), (5, .val (.pointer (some (⟨nu1 1, 0, none⟩)))), (6, .val (.bool false)), (9, .val (.pointer (some (⟨nu3 0, 0, none⟩)))), (27, .val (.slice none 0 0)), (29, .val (.slice a o.dots.length cc))]) (h1 := fun _ => [(nu1 0, .cells #[.int .i64 o.no, .string o.key, .int .i64 o.kind, .string o.text, .int .i64 o.n, .bool o.remove, .slice a o.dots.length cc] 24 (0, 0)), (nu1 1, .cells #[.slice a1 c.when.length c1, .int .i64 c.place, .slice a2 c.ops.length c2] 28 (0, 0)), (nu3 0, .cells #[.int .i64 o.no, .string o.key, .int .i64 o.kind, .string o.text, .int .i64 o.n, .bool o.remove, .slice a o.dots.length cc] 24 (0, 0))]) (p1 := fun _ => []) (W1 := []) (fun _ => by kernel_rfl) (fun _ => trivial) (fun _ => ?_)
      refine JR_appm 0 22 65 3 24 (.agg #[.int .i64 0, .int .i64 0, .int .i64 0]) (a0 := none) (len := 0) (cap0 := 0) (ax := a) (m := o.dots.length) (c := cc) (dst := (some 30)) o.dots (by kernel_rfl) (by kernel_rfl) (by kernel_rfl) (by kernel_rfl) rfl (by decide) rfl (fun _ _ _ s => src_fact s 1 rfl (by decide)) (by simp only [maxLen]; omega) (by omega) (fun av1 cv1 => ?_)
      rw [Nat.zero_add]
      try simp only [List.cons_append, List.nil_append, List.append_nil]
      refine JR_run (id := 6) (rest := []) [.rd 4 [] 0 0, .wr 5 [.o 2 none] 0] [1, 3, 5, 6, 9] (E1 := fun _ => [(1, .val (.int .i64 p)), (3, .val (.pointer (some (⟨nu1 0, 0, none⟩)))), (5, .val (.pointer (some (⟨nu1 1, 0, none⟩)))), (6, .val (.bool false)), (9, .val (.pointer (some (⟨nu3 0, 0, none⟩))))]) (h1 := fun _ => [(nu1 0, .cells #[.int .i64 o.no, .string o.key, .int .i64 o.kind, .string o.text, .int .i64 o.n, .bool o.remove, .slice a o.dots.length cc] 24 (0, 0)), (nu1 1, .cells #[.slice a1 c.when.length c1, .int .i64 c.place, .slice a2 c.ops.length c2] 28 (0, 0)), (nu3 0, .cells #[.int .i64 o.no, .string o.key, .int .i64 o.kind, .string o.text, .int .i64 o.n, .bool o.remove, .slice av1 o.dots.length cv1] 24 (0, 0))]) (p1 := fun _ => []) (W1 := []) (fun _ => by kernel_rfl) (fun _ => trivial) (fun _ => ?_)
      try simp only [List.cons_append, List.nil_append, List.append_nil]
      refine JR_end ?_
      try simp only [List.cons_append, List.nil_append, List.append_nil]
      refine J_seq ?_
      try simp only [List.cons_append, List.nil_append, List.append_nil]
      refine J_stp (stp_freeze 0 rfl) ?_
      try simp only [List.cons_append, List.nil_append, List.append_nil]
      refine JR_begin mixed [(0, true), (1, true), (3, true), (4, true), (2, false), (5, false), (6, false), (7, true), (8, true), (11, true), (9, false), (10, false), (12, false), (13, false), (14, true), (15, true)] [] (by kernel_rfl) (by kernel_rfl) ?_
      refine JR_run (id := 7) (rest := [(2, false), (5, false), (6, false), (7, true), (8, true), (11, true), (9, false), (10, false), (12, false), (13, false), (14, true), (15, true)]) [.rd 0 [.o 2 none, .o 2 none, .o 2 none, .o 2 none, .o 2 none, .o 2 none, .o 2 none] 0 0, .rd 1 [] 0 0, .rd 3 [.o 0 none, .o 0 none, .o 0 none, .o 0 none, .o 0 none, .o 0 none, .o 0 none] 0 0, .rd 4 [] 0 0] [5, 6, 32, 33, 35, 36] (E1 := fun _ => [(5, .val (.pointer (some (⟨nu1 1, 0, none⟩)))), (6, .val (.bool false)), (32, .val (.agg #[.int .i64 o.no, .string o.key, .int .i64 o.kind, .string o.text, .int .i64 o.n, .bool o.remove, .slice av1 o.dots.length cv1])), (33, .val (.int .i64 p)), (35, .val (.agg #[.int .i64 o.no, .string o.key, .int .i64 o.kind, .string o.text, .int .i64 o.n, .bool o.remove, .slice a o.dots.length cc])), (36, .val (.int .i64 p))]) (h1 := fun _ => [(nu1 0, .cells #[.int .i64 o.no, .string o.key, .int .i64 o.kind, .string o.text, .int .i64 o.n, .bool o.remove, .slice a o.dots.length cc] 24 (0, 0)), (nu1 1, .cells #[.slice a1 c.when.length c1, .int .i64 c.place, .slice a2 c.ops.length c2] 28 (0, 0)), (nu3 0, .cells #[.int .i64 o.no, .string o.key, .int .i64 o.kind, .string o.text, .int .i64 o.n, .bool o.remove, .slice av1 o.dots.length cv1] 24 (0, 0))]) (p1 := fun _ => []) (W1 := []) (fun _ => by kernel_rfl) (fun _ => trivial) (fun _ => ?_)
      refine JR_callp [] 14 #[.agg #[.int .i64 o.no, .string o.key, .int .i64 o.kind, .string o.text, .int .i64 o.n, .bool o.remove, .slice av1 o.dots.length cv1], .int .i64 p] (some 34) (by kernel_rfl) (fun w S hG => ?_)
      refine (vCheckOp (o := o) (hG.at 0 rfl) (hG.at 6 rfl)).mono ?_
      rintro e3 w3 ⟨v, hR, hv⟩
      have hvo : v.oneCell' = true := by rcases hv with ⟨_, rfl⟩ | ⟨_, rfl⟩ <;> rfl
      refine ⟨_, _, _, hR, ?_⟩
      try simp only [List.cons_append, List.nil_append, List.append_nil]
      refine JR_callp [] 15 #[.agg #[.int .i64 o.no, .string o.key, .int .i64 o.kind, .string o.text, .int .i64 o.n, .bool o.remove, .slice a o.dots.length cc], .int .i64 p] (some 37) (by kernel_rfl) (fun w S hG => ?_)
      refine (opError (o := o) (hG.at 1 rfl)).mono ?_
      rintro e4 w4 hR
      refine ⟨_, _, _, hR, ?_⟩
      try simp only [List.cons_append, List.nil_append, List.append_nil]
      refine JR_callp [] 13 #[v, .int .i64 ((↑(opErr o p) : Int))] (some 38) (by kernel_rfl) (fun w S hG => ?_)
      refine (codedErr (hG.at 0 rfl) hI (opErr_le o p) hv).mono ?_
      rintro e5 w5 hR
      rw [decide_eq_true rfl] at hR
      refine ⟨_, _, _, hR, ?_⟩
      try simp only [List.cons_append, List.nil_append, List.append_nil]
      refine JR_run (id := 7) (rest := [(9, false), (10, false), (12, false), (13, false), (14, true), (15, true)]) [.rd 7 [] 0 0, .rd 8 [.o 1 none, .o 1 none, .o 1 none] 0 0, .rd 11 [.o 1 none, .o 1 none, .o 1 none] 0 0] [6, 39, 40, 43] (E1 := fun _ => [(6, .val (.bool false)), (39, .val (.bool true)), (40, .val (.agg #[.slice a1 c.when.length c1, .int .i64 c.place, .slice a2 c.ops.length c2])), (43, .val (.agg #[.slice a1 c.when.length c1, .int .i64 c.place, .slice a2 c.ops.length c2]))]) (h1 := fun _ => [(nu1 0, .cells #[.int .i64 o.no, .string o.key, .int .i64 o.kind, .string o.text, .int .i64 o.n, .bool o.remove, .slice a o.dots.length cc] 24 (0, 0)), (nu1 1, .cells #[.slice a1 c.when.length c1, .int .i64 c.place, .slice a2 c.ops.length c2] 28 (0, 0)), (nu3 0, .cells #[.int .i64 o.no, .string o.key, .int .i64 o.kind, .string o.text, .int .i64 o.n, .bool o.remove, .slice av1 o.dots.length cv1] 24 (0, 0))]) (p1 := fun _ => []) (W1 := []) (fun _ => by kernel_rfl) (fun _ => trivial) (fun _ => ?_)
      refine JR_callp [] 18 #[.agg #[.slice a1 c.when.length c1, .int .i64 c.place, .slice a2 c.ops.length c2]] (some 41) (by kernel_rfl) (fun w S hG => ?_)
      refine (ownCommit (c := c) (hG.at 2 rfl) (hG.at 3 rfl) (by omega) (by omega) fun o ho => by have := hl3 o ho; omega).mono ?_
      rintro e6 w6 ⟨b1, m1, d1, b2, m2, d2, hR⟩
      refine ⟨_, _, _, hR, ?_⟩
      try simp only [List.cons_append, List.nil_append, List.append_nil]
      refine JR_callp [] 17 #[.agg #[.slice b1 m1 d1, .int .i64 c.place, .slice b2 m2 d2]] (some 42) (by kernel_rfl) (fun w S hG => ?_)
      refine (checkCommit (c := c) (hG.at 0 rfl) (hG.at 7 rfl) (hG.at 8 rfl) (by omega) (by omega)).mono ?_
      rintro e7 w7 (⟨ha, u, hR, hu⟩ | ⟨h1, h0, pb, hR⟩)
      · have huo : u.oneCell' = true := by rcases hu with ⟨_, rfl⟩ | ⟨_, rfl⟩ <;> rfl
        refine ⟨_, _, _, hR, ?_⟩
        try simp only [List.cons_append, List.nil_append, List.append_nil]
        refine JR_callp [] 19 #[.agg #[.slice a1 c.when.length c1, .int .i64 c.place, .slice a2 c.ops.length c2]] (some 44) (by kernel_rfl) (fun w S hG => ?_)
        refine (commitFault (c := c) (hG.at 2 rfl) (hG.at 3 rfl) (by omega) (by omega)).mono ?_
        rintro e8 w8 hR
        refine ⟨_, _, _, hR, ?_⟩
        try simp only [List.cons_append, List.nil_append, List.append_nil]
        refine JR_callp [] 16 #[u, .agg #[.int .i64 ((↑(comFault c).code : Int)), .int .i64 ((comFault c).at')]] (some 45) (by kernel_rfl) (fun w S hG => ?_)
        refine (faultedErr (hG.at 0 rfl) hI (comFault_code c) hu ha).mono ?_
        rintro e9 w9 hR
        refine ⟨_, _, _, hR, ?_⟩
        try simp only [List.cons_append, List.nil_append, List.append_nil]
        refine JR_run (id := 7) (rest := []) [.rd 14 [] 0 0, .rd 15 [] 0 0] [6] (E1 := fun _ => [(6, .val (.bool true))]) (h1 := fun _ => [(nu1 0, .cells #[.int .i64 o.no, .string o.key, .int .i64 o.kind, .string o.text, .int .i64 o.n, .bool o.remove, .slice a o.dots.length cc] 24 (0, 0)), (nu1 1, .cells #[.slice a1 c.when.length c1, .int .i64 c.place, .slice a2 c.ops.length c2] 28 (0, 0)), (nu3 0, .cells #[.int .i64 o.no, .string o.key, .int .i64 o.kind, .string o.text, .int .i64 o.n, .bool o.remove, .slice av1 o.dots.length cv1] 24 (0, 0))]) (p1 := fun _ => []) (W1 := []) (fun _ => by kernel_rfl) (fun _ => trivial) (fun _ => ?_)
        refine JR_end ?_
        refine J_return [[]] (.bool true) (by kernel_rfl) (fun a w s => ?_)
        exact s.ret (by simp) [] [] rfl rfl
      · refine ⟨_, _, _, hR, ?_⟩
        try simp only [List.cons_append, List.nil_append, List.append_nil]
        refine JR_callp [] 19 #[.agg #[.slice a1 c.when.length c1, .int .i64 c.place, .slice a2 c.ops.length c2]] (some 44) (by kernel_rfl) (fun w S hG => ?_)
        refine (commitFault (c := c) (hG.at 2 rfl) (hG.at 3 rfl) (by omega) (by omega)).mono ?_
        rintro e8 w8 hR
        refine ⟨_, _, _, hR, ?_⟩
        try simp only [List.cons_append, List.nil_append, List.append_nil]
        refine JR_callp [] 16 #[.iface 102 (.pointer (some (⟨pb, 0, none⟩))), .agg #[.int .i64 ((↑(comFault c).code : Int)), .int .i64 ((comFault c).at')]] (some 45) (by kernel_rfl) (fun w S hG => ?_)
        refine (faultedAt (hG.at 0 rfl) hI h1 (comFault_code c) (hG.at 9 rfl)).mono ?_
        rintro e9 w9 hR
        refine ⟨_, _, _, hR, ?_⟩
        try simp only [List.cons_append, List.nil_append, List.append_nil]
        refine JR_run (id := 7) (rest := []) [.rd 14 [] 0 0, .rd 15 [] 0 0] [6] (E1 := fun _ => [(6, .val (.bool true))]) (h1 := fun _ => [(nu1 0, .cells #[.int .i64 o.no, .string o.key, .int .i64 o.kind, .string o.text, .int .i64 o.n, .bool o.remove, .slice a o.dots.length cc] 24 (0, 0)), (nu1 1, .cells #[.slice a1 c.when.length c1, .int .i64 c.place, .slice a2 c.ops.length c2] 28 (0, 0)), (nu3 0, .cells #[.int .i64 o.no, .string o.key, .int .i64 o.kind, .string o.text, .int .i64 o.n, .bool o.remove, .slice av1 o.dots.length cv1] 24 (0, 0))]) (p1 := fun _ => []) (W1 := []) (fun _ => by kernel_rfl) (fun _ => trivial) (fun _ => ?_)
        refine JR_end ?_
        refine J_return [[]] (.bool true) (by kernel_rfl) (fun a w s => ?_)
        exact s.ret (by simp) [] [] rfl rfl
    · rw [hv1]
      try simp only [List.cons_append, List.nil_append, List.append_nil]
      refine JR_run (id := 2) (rest := []) [.rd 12 [] 0 0, .rd 13 [] 0 0] [1, 3, 5, 6, 7, 24] (E1 := fun _ => [(1, .val (.int .i64 p)), (3, .val (.pointer (some (⟨nu1 0, 0, none⟩)))), (5, .val (.pointer (some (⟨nu1 1, 0, none⟩)))), (6, .val (.bool false)), (7, .val (.bool true)), (24, .val (.bool true))]) (h1 := fun _ => [(nu1 0, .cells #[.int .i64 o.no, .string o.key, .int .i64 o.kind, .string o.text, .int .i64 o.n, .bool o.remove, .slice a o.dots.length cc] 24 (0, 0)), (nu1 1, .cells #[.slice a1 c.when.length c1, .int .i64 c.place, .slice a2 c.ops.length c2] 28 (0, 0))]) (p1 := fun _ => []) (W1 := []) (fun _ => by kernel_rfl) (fun _ => trivial) (fun _ => ?_)
      refine JR_end ?_
      refine J_cond_t (by kernel_rfl) (by kernel_rfl) ?_
      refine J_seq ?_
      refine J_reg mixed [.rd 0 [] 0 0, .rd 1 [] 0 0] [] [1, 3, 5, 6] (E1 := fun _ => [(1, .val (.int .i64 p)), (3, .val (.pointer (some (⟨nu1 0, 0, none⟩)))), (5, .val (.pointer (some (⟨nu1 1, 0, none⟩)))), (6, .val (.bool true))]) (h1 := fun _ => [(nu1 0, .cells #[.int .i64 o.no, .string o.key, .int .i64 o.kind, .string o.text, .int .i64 o.n, .bool o.remove, .slice a o.dots.length cc] 24 (0, 0)), (nu1 1, .cells #[.slice a1 c.when.length c1, .int .i64 c.place, .slice a2 c.ops.length c2] 28 (0, 0))]) (p1 := fun _ => []) (W1 := []) (by kernel_rfl) (fun _ => by kernel_rfl) (fun _ => trivial) (fun _ => ?_)
      refine J_return [[]] (.bool true) (by kernel_rfl) (fun a w s => ?_)
      exact s.ret (by simp) [] [] rfl rfl
  · rw [hv0]
    try simp only [List.cons_append, List.nil_append, List.append_nil]
    refine JR_run (id := 2) (rest := []) [.rd 7 [] 0 0, .rd 8 [] 0 0, .rd 9 [] 0 0, .rd 10 [] 1 0, .wr 11 [] 1, .rd 12 [] 1 0, .rd 13 [] 0 0] [1, 3, 5, 6, 7, 24] (E1 := fun _ => [(1, .val (.int .i64 p)), (3, .val (.pointer (some (⟨nu1 0, 0, none⟩)))), (5, .val (.pointer (some (⟨nu1 1, 0, none⟩)))), (6, .val (.bool false)), (7, .val (.bool true)), (24, .val (.bool true))]) (h1 := fun _ => [(nu1 0, .cells #[.int .i64 o.no, .string o.key, .int .i64 o.kind, .string o.text, .int .i64 o.n, .bool o.remove, .slice a o.dots.length cc] 24 (0, 0)), (nu1 1, .cells #[.slice a1 c.when.length c1, .int .i64 c.place, .slice a2 c.ops.length c2] 28 (0, 0))]) (p1 := fun _ => []) (W1 := []) (fun _ => by kernel_rfl) (fun _ => trivial) (fun _ => ?_)
    refine JR_end ?_
    refine J_cond_t (by kernel_rfl) (by kernel_rfl) ?_
    refine J_seq ?_
    refine J_reg mixed [.rd 0 [] 0 0, .rd 1 [] 0 0] [] [1, 3, 5, 6] (E1 := fun _ => [(1, .val (.int .i64 p)), (3, .val (.pointer (some (⟨nu1 0, 0, none⟩)))), (5, .val (.pointer (some (⟨nu1 1, 0, none⟩)))), (6, .val (.bool true))]) (h1 := fun _ => [(nu1 0, .cells #[.int .i64 o.no, .string o.key, .int .i64 o.kind, .string o.text, .int .i64 o.n, .bool o.remove, .slice a o.dots.length cc] 24 (0, 0)), (nu1 1, .cells #[.slice a1 c.when.length c1, .int .i64 c.place, .slice a2 c.ops.length c2] 28 (0, 0))]) (p1 := fun _ => []) (W1 := []) (by kernel_rfl) (fun _ => by kernel_rfl) (fun _ => trivial) (fun _ => ?_)
    refine J_return [[]] (.bool true) (by kernel_rfl) (fun a w s => ?_)
    exact s.ret (by simp) [] [] rfl rfl
end Go.Proofs.YtpjkiomccpjboaaGreatDoor
