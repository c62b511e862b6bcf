/- vector: two, in, each. -/
import Derived.Test.YtpjkiomccpjboaaGreatDoorVec1
namespace Go.Proofs.YtpjkiomccpjboaaGreatDoor
open Go Go.Sx

def twoErr (xs ys : List Int) : Nat := if vecErr xs ≠ 0 then vecErr xs else if vecErr ys ≠ 0 then vecErr ys else if xs.length ≠ ys.length then 3 else 0
theorem vecErr_len {xs : List Int} (h : vecErr xs = 0) : 1 ≤ xs.length ∧ xs.length ≤ 6 := by
  unfold vecErr at h
  split at h
  · cases h
  · omega
theorem vecErr_in {xs : List Int} (h : vecErr xs = 0) : ∀ t ∈ xs, 0 ≤ t ∧ t ≤ 1099511627776 := by
  unfold vecErr at h
  split at h
  · cases h
  · split at h
    · cases h
    · rename_i hb
      intro t ht
      simp only [Bool.not_eq_true, List.any_eq_false] at hb
      have := hb t ht
      simp [badT] at this
      omega

theorem vtwo {w : World} {S : Nat → Prop} {er : Nat → Addr} {a b : Option Addr} {n m c d : Nat} {xs ys : List Int} (hE : AllG w S (globs er)) (ha : Rep w S (.slice a n c) (dInts xs)) (hb : Rep w S (.slice b m d) (dInts ys)) (hl : xs.length ≤ 1000000) (hl2 : ys.length ≤ 1000000) :
    Calls Tryz.prog 84 #[.slice a n c, .slice b m d] w fun e w' => ∃ v, Ret [] w S w' e v [] [] ∧ ErrIs 243 er (twoErr xs ys) v := by
  obtain rfl := rep_ints_len ha
  obtain rfl := rep_ints_len hb
  refine ep84 (args := [.slice a xs.length c, .slice b ys.length d]) (G := globs er ++ [(_, dInts xs), (_, dInts ys)]) (by kernel_rfl) (hE.app (.cons ha (.cons hb (.nil _ _)))) ?_
  refine J_glob 2 rfl (fun csg1 tyg1 fzg1 hglob1 => ?_)
  try simp only [List.cons_append, List.nil_append, List.append_nil]
  refine J_seq ?_
  refine J_reg mixed [.rd 0 [] 0 0] [] [0, 1, 4] (E1 := fun _ => [(0, .val (.slice a xs.length c)), (1, .val (.slice b ys.length d)), (4, .val (.nilIface))]) (h1 := fun _ => []) (p1 := fun _ => []) (W1 := []) (by kernel_rfl) (fun _ => by kernel_rfl) (fun _ => trivial) (fun _ => ?_)
  refine J_seq ?_
  refine J_seq ?_
  refine J_reg mixed [.rd 0 [] 0 0, .rd 1 [] 0 0, .wr 2 [] 0, .rd 3 [] 0 0, .rd 4 [] 0 0] [] [0, 1, 4, 10, 11, 12] (E1 := fun nu1 => [(0, .val (.slice a xs.length c)), (1, .val (.slice b ys.length d)), (4, .val (.nilIface)), (10, .val (.slice (some (⟨nu1 0, 0, none⟩)) 2 2)), (11, .val (.int .i64 2)), (12, .val (.int .i64 0))]) (h1 := fun nu1 => [(nu1 0, .cells #[.slice a xs.length c, .slice b ys.length d] 25 (0, 0))]) (p1 := fun nu1 => []) (W1 := []) (by kernel_rfl) (fun _ => by kernel_rfl) (fun _ => trivial) (fun nu1 => ?_)
  refine J_block ?_
  refine J_loopx (fun i : Int => [(0, .val (.slice a xs.length c)), (1, .val (.slice b ys.length d)), (4, .val (.nilIface)), (10, .val (.slice (some (⟨nu1 0, 0, none⟩)) 2 2)), (11, .val (.int .i64 2)), (12, .val (.int .i64 i))]) (fun i : Int => [(nu1 0, .cells #[.slice a xs.length c, .slice b ys.length d] 25 (0, 0))]) (fun i : Int => []) (fun i : Int => [(.nilIface, (D.v Value.nilIface)), (.pointer (some (⟨0, 0, none⟩)), (D.ptr [D.v (Value.iface 243 (Value.pointer (some (er 2))))])), (.pointer (some (⟨3, 0, none⟩)), (D.ptr [D.v (Value.iface 243 (Value.pointer (some (er 3))))])), (.slice a xs.length c, (dInts xs)), (.slice b ys.length d, (dInts ys))]) (fun i : Int => (2 - i).toNat) (fun i : Int => (i = 0 ∨ (i = 1 ∧ vecErr xs = 0) ∨ (i = 2 ∧ vecErr xs = 0 ∧ vecErr ys = 0))) 0 [0, 1, 4, 10, 11, 12] [0] [] [0, 1, 2, 3, 4] ?_ (by kernel_rfl) rfl rfl rfl ?_
  · exact .inl rfl
  rintro i (rfl | ⟨rfl, h0⟩ | ⟨rfl, h0, h1⟩)
  · refine J_seq ?_
    refine J_reg mixed [.rd 0 [] 0 0] [] [0, 1, 4, 10, 11, 12, 13] (E1 := fun _ => [(0, .val (.slice a xs.length c)), (1, .val (.slice b ys.length d)), (4, .val (.nilIface)), (10, .val (.slice (some (⟨nu1 0, 0, none⟩)) 2 2)), (11, .val (.int .i64 2)), (12, .val (.int .i64 0)), (13, .val (.bool true))]) (h1 := fun _ => [(nu1 0, .cells #[.slice a xs.length c, .slice b ys.length d] 25 (0, 0))]) (p1 := fun _ => []) (W1 := []) (by kernel_rfl) (fun _ => by kernel_rfl) (fun _ => trivial) (fun _ => ?_)
    refine J_seq ?_
    refine J_cond_t (by kernel_rfl) (by kernel_rfl) ?_
    refine J_skip ?_
    refine J_seq ?_
    refine J_block ?_
    refine J_seq ?_
    refine J_reg mixed [.rd 0 [] 0 0, .rd 1 [.o 0 none] 0 0, .rd 2 [] 0 0] [] [0, 1, 4, 6, 10, 11, 12] (E1 := fun _ => [(0, .val (.slice a xs.length c)), (1, .val (.slice b ys.length d)), (4, .val (.nilIface)), (6, .val (.slice a xs.length c)), (10, .val (.slice (some (⟨nu1 0, 0, none⟩)) 2 2)), (11, .val (.int .i64 2)), (12, .val (.int .i64 0))]) (h1 := fun _ => [(nu1 0, .cells #[.slice a xs.length c, .slice b ys.length d] 25 (0, 0))]) (p1 := fun _ => []) (W1 := []) (by kernel_rfl) (fun _ => by kernel_rfl) (fun _ => trivial) (fun _ => ?_)
    refine J_seq ?_
    refine JR_begin mixed [(0, true), (1, false), (2, true)] [] (by kernel_rfl) (by kernel_rfl) ?_
    refine JR_run (id := 4) (rest := [(1, false), (2, true)]) [.rd 0 [] 0 0] [0, 1, 4, 6, 10, 11, 12, 16] (E1 := fun _ => [(0, .val (.slice a xs.length c)), (1, .val (.slice b ys.length d)), (4, .val (.nilIface)), (6, .val (.slice a xs.length c)), (10, .val (.slice (some (⟨nu1 0, 0, none⟩)) 2 2)), (11, .val (.int .i64 2)), (12, .val (.int .i64 0)), (16, .val (.slice a xs.length c))]) (h1 := fun _ => [(nu1 0, .cells #[.slice a xs.length c, .slice b ys.length d] 25 (0, 0))]) (p1 := fun _ => []) (W1 := []) (fun _ => by kernel_rfl) (fun _ => trivial) (fun _ => ?_)
    refine JR_callp [] 59 #[.slice a xs.length c] (some 17) (by kernel_rfl) (fun w S hG => ?_)
    refine (vcheck (hG.pick [0, 1, 2] rfl) (hG.at 3 rfl) hl).mono ?_
    rintro e w2 ⟨v, hR, ⟨h2, rfl⟩ | ⟨h2, rfl⟩⟩
    · refine ⟨_, _, _, hR, ?_⟩
      try simp only [List.cons_append, List.nil_append, List.append_nil]
      refine JR_run (id := 4) (rest := []) [.rd 2 [] 0 0] [0, 1, 4, 6, 7, 10, 11, 12] (E1 := fun _ => [(0, .val (.slice a xs.length c)), (1, .val (.slice b ys.length d)), (4, .val (.nilIface)), (6, .val (.slice a xs.length c)), (7, .val (.nilIface)), (10, .val (.slice (some (⟨nu1 0, 0, none⟩)) 2 2)), (11, .val (.int .i64 2)), (12, .val (.int .i64 0))]) (h1 := fun _ => [(nu1 0, .cells #[.slice a xs.length c, .slice b ys.length d] 25 (0, 0))]) (p1 := fun _ => []) (W1 := []) (fun _ => by kernel_rfl) (fun _ => trivial) (fun _ => ?_)
      refine JR_end ?_
      refine J_seq ?_
      refine J_reg mixed [.rd 0 [] 0 0, .rd 1 [] 0 0] [] [0, 1, 4, 6, 7, 10, 11, 12, 19] (E1 := fun _ => [(0, .val (.slice a xs.length c)), (1, .val (.slice b ys.length d)), (4, .val (.nilIface)), (6, .val (.slice a xs.length c)), (7, .val (.nilIface)), (10, .val (.slice (some (⟨nu1 0, 0, none⟩)) 2 2)), (11, .val (.int .i64 2)), (12, .val (.int .i64 0)), (19, .val (.bool false))]) (h1 := fun _ => [(nu1 0, .cells #[.slice a xs.length c, .slice b ys.length d] 25 (0, 0))]) (p1 := fun _ => []) (W1 := []) (by kernel_rfl) (fun _ => by kernel_rfl) (fun _ => trivial) (fun _ => ?_)
      refine J_cond_f (by kernel_rfl) (by kernel_rfl) ?_
      refine J_skip ?_
      refine J_eb ?_
      refine J_reg mixed [.rd 0 [] 0 0, .rd 1 [] 0 0] [] [0, 1, 4, 6, 7, 10, 11, 12] (E1 := fun _ => [(0, .val (.slice a xs.length c)), (1, .val (.slice b ys.length d)), (4, .val (.nilIface)), (6, .val (.slice a xs.length c)), (7, .val (.nilIface)), (10, .val (.slice (some (⟨nu1 0, 0, none⟩)) 2 2)), (11, .val (.int .i64 2)), (12, .val (.int .i64 1))]) (h1 := fun _ => [(nu1 0, .cells #[.slice a xs.length c, .slice b ys.length d] 25 (0, 0))]) (p1 := fun _ => []) (W1 := []) (by kernel_rfl) (fun _ => by kernel_rfl) (fun _ => trivial) (fun _ => ?_)
      refine J_backx 1 [0, 1, 4, 10, 11, 12] [0] [] [0, 1, 2, 3, 4] ?_ ?_ (by kernel_rfl) rfl rfl rfl
      · exact .inr (.inl ⟨rfl, h2⟩)
      · omega
    · refine ⟨_, _, _, hR, ?_⟩
      try simp only [List.cons_append, List.nil_append, List.append_nil]
      refine JR_run (id := 4) (rest := []) [.rd 2 [] 0 0] [0, 1, 4, 6, 7, 10, 11, 12] (E1 := fun _ => [(0, .val (.slice a xs.length c)), (1, .val (.slice b ys.length d)), (4, .val (.nilIface)), (6, .val (.slice a xs.length c)), (7, .val (.iface 243 (.pointer (some (er (vecErr xs)))))), (10, .val (.slice (some (⟨nu1 0, 0, none⟩)) 2 2)), (11, .val (.int .i64 2)), (12, .val (.int .i64 0))]) (h1 := fun _ => [(nu1 0, .cells #[.slice a xs.length c, .slice b ys.length d] 25 (0, 0))]) (p1 := fun _ => []) (W1 := []) (fun _ => by kernel_rfl) (fun _ => trivial) (fun _ => ?_)
      refine JR_end ?_
      refine J_seq ?_
      refine J_reg mixed [.rd 0 [] 0 0, .rd 1 [] 0 0] [] [0, 1, 4, 6, 7, 10, 11, 12, 19] (E1 := fun _ => [(0, .val (.slice a xs.length c)), (1, .val (.slice b ys.length d)), (4, .val (.nilIface)), (6, .val (.slice a xs.length c)), (7, .val (.iface 243 (.pointer (some (er (vecErr xs)))))), (10, .val (.slice (some (⟨nu1 0, 0, none⟩)) 2 2)), (11, .val (.int .i64 2)), (12, .val (.int .i64 0)), (19, .val (.bool true))]) (h1 := fun _ => [(nu1 0, .cells #[.slice a xs.length c, .slice b ys.length d] 25 (0, 0))]) (p1 := fun _ => []) (W1 := []) (by kernel_rfl) (fun _ => by kernel_rfl) (fun _ => trivial) (fun _ => ?_)
      refine J_cond_t (by kernel_rfl) (by kernel_rfl) ?_
      refine J_seq ?_
      refine J_reg mixed [.rd 0 [] 0 0, .rd 1 [] 0 0] [] [0, 1, 4, 6, 7, 10, 11, 12] (E1 := fun _ => [(0, .val (.slice a xs.length c)), (1, .val (.slice b ys.length d)), (4, .val (.iface 243 (.pointer (some (er (vecErr xs)))))), (6, .val (.slice a xs.length c)), (7, .val (.iface 243 (.pointer (some (er (vecErr xs)))))), (10, .val (.slice (some (⟨nu1 0, 0, none⟩)) 2 2)), (11, .val (.int .i64 2)), (12, .val (.int .i64 0))]) (h1 := fun _ => [(nu1 0, .cells #[.slice a xs.length c, .slice b ys.length d] 25 (0, 0))]) (p1 := fun _ => []) (W1 := []) (by kernel_rfl) (fun _ => by kernel_rfl) (fun _ => trivial) (fun _ => ?_)
      refine J_return [[]] (.iface 243 (.pointer (some (er (vecErr xs))))) (by kernel_rfl) (fun a w s => ?_)
      exact ⟨_, s.ret (by simp) [] [] rfl rfl, .inr (by rw [twoErr, if_pos h2]; exact ⟨h2, rfl⟩)⟩
  · refine J_seq ?_
    refine J_reg mixed [.rd 0 [] 0 0] [] [0, 1, 4, 10, 11, 12, 13] (E1 := fun _ => [(0, .val (.slice a xs.length c)), (1, .val (.slice b ys.length d)), (4, .val (.nilIface)), (10, .val (.slice (some (⟨nu1 0, 0, none⟩)) 2 2)), (11, .val (.int .i64 2)), (12, .val (.int .i64 1)), (13, .val (.bool true))]) (h1 := fun _ => [(nu1 0, .cells #[.slice a xs.length c, .slice b ys.length d] 25 (0, 0))]) (p1 := fun _ => []) (W1 := []) (by kernel_rfl) (fun _ => by kernel_rfl) (fun _ => trivial) (fun _ => ?_)
    refine J_seq ?_
    refine J_cond_t (by kernel_rfl) (by kernel_rfl) ?_
    refine J_skip ?_
    refine J_seq ?_
    refine J_block ?_
    refine J_seq ?_
    refine J_reg mixed [.rd 0 [] 0 0, .rd 1 [.o 0 none] 0 0, .rd 2 [] 0 0] [] [0, 1, 4, 6, 10, 11, 12] (E1 := fun _ => [(0, .val (.slice a xs.length c)), (1, .val (.slice b ys.length d)), (4, .val (.nilIface)), (6, .val (.slice b ys.length d)), (10, .val (.slice (some (⟨nu1 0, 0, none⟩)) 2 2)), (11, .val (.int .i64 2)), (12, .val (.int .i64 1))]) (h1 := fun _ => [(nu1 0, .cells #[.slice a xs.length c, .slice b ys.length d] 25 (0, 0))]) (p1 := fun _ => []) (W1 := []) (by kernel_rfl) (fun _ => by kernel_rfl) (fun _ => trivial) (fun _ => ?_)
    refine J_seq ?_
    refine JR_begin mixed [(0, true), (1, false), (2, true)] [] (by kernel_rfl) (by kernel_rfl) ?_
    refine JR_run (id := 4) (rest := [(1, false), (2, true)]) [.rd 0 [] 0 0] [0, 1, 4, 6, 10, 11, 12, 16] (E1 := fun _ => [(0, .val (.slice a xs.length c)), (1, .val (.slice b ys.length d)), (4, .val (.nilIface)), (6, .val (.slice b ys.length d)), (10, .val (.slice (some (⟨nu1 0, 0, none⟩)) 2 2)), (11, .val (.int .i64 2)), (12, .val (.int .i64 1)), (16, .val (.slice b ys.length d))]) (h1 := fun _ => [(nu1 0, .cells #[.slice a xs.length c, .slice b ys.length d] 25 (0, 0))]) (p1 := fun _ => []) (W1 := []) (fun _ => by kernel_rfl) (fun _ => trivial) (fun _ => ?_)
    refine JR_callp [] 59 #[.slice b ys.length d] (some 17) (by kernel_rfl) (fun w S hG => ?_)
    refine (vcheck (hG.pick [0, 1, 2] rfl) (hG.at 4 rfl) hl2).mono ?_
    rintro e w2 ⟨v, hR, ⟨h2, rfl⟩ | ⟨h2, rfl⟩⟩
    · refine ⟨_, _, _, hR, ?_⟩
      try simp only [List.cons_append, List.nil_append, List.append_nil]
      refine JR_run (id := 4) (rest := []) [.rd 2 [] 0 0] [0, 1, 4, 6, 7, 10, 11, 12] (E1 := fun _ => [(0, .val (.slice a xs.length c)), (1, .val (.slice b ys.length d)), (4, .val (.nilIface)), (6, .val (.slice b ys.length d)), (7, .val (.nilIface)), (10, .val (.slice (some (⟨nu1 0, 0, none⟩)) 2 2)), (11, .val (.int .i64 2)), (12, .val (.int .i64 1))]) (h1 := fun _ => [(nu1 0, .cells #[.slice a xs.length c, .slice b ys.length d] 25 (0, 0))]) (p1 := fun _ => []) (W1 := []) (fun _ => by kernel_rfl) (fun _ => trivial) (fun _ => ?_)
      refine JR_end ?_
      refine J_seq ?_
      refine J_reg mixed [.rd 0 [] 0 0, .rd 1 [] 0 0] [] [0, 1, 4, 6, 7, 10, 11, 12, 19] (E1 := fun _ => [(0, .val (.slice a xs.length c)), (1, .val (.slice b ys.length d)), (4, .val (.nilIface)), (6, .val (.slice b ys.length d)), (7, .val (.nilIface)), (10, .val (.slice (some (⟨nu1 0, 0, none⟩)) 2 2)), (11, .val (.int .i64 2)), (12, .val (.int .i64 1)), (19, .val (.bool false))]) (h1 := fun _ => [(nu1 0, .cells #[.slice a xs.length c, .slice b ys.length d] 25 (0, 0))]) (p1 := fun _ => []) (W1 := []) (by kernel_rfl) (fun _ => by kernel_rfl) (fun _ => trivial) (fun _ => ?_)
      refine J_cond_f (by kernel_rfl) (by kernel_rfl) ?_
      refine J_skip ?_
      refine J_eb ?_
      refine J_reg mixed [.rd 0 [] 0 0, .rd 1 [] 0 0] [] [0, 1, 4, 6, 7, 10, 11, 12] (E1 := fun _ => [(0, .val (.slice a xs.length c)), (1, .val (.slice b ys.length d)), (4, .val (.nilIface)), (6, .val (.slice b ys.length d)), (7, .val (.nilIface)), (10, .val (.slice (some (⟨nu1 0, 0, none⟩)) 2 2)), (11, .val (.int .i64 2)), (12, .val (.int .i64 2))]) (h1 := fun _ => [(nu1 0, .cells #[.slice a xs.length c, .slice b ys.length d] 25 (0, 0))]) (p1 := fun _ => []) (W1 := []) (by kernel_rfl) (fun _ => by kernel_rfl) (fun _ => trivial) (fun _ => ?_)
      refine J_backx 2 [0, 1, 4, 10, 11, 12] [0] [] [0, 1, 2, 3, 4] ?_ ?_ (by kernel_rfl) rfl rfl rfl
      · exact .inr (.inr ⟨rfl, h0, h2⟩)
      · omega
    · refine ⟨_, _, _, hR, ?_⟩
      try simp only [List.cons_append, List.nil_append, List.append_nil]
      refine JR_run (id := 4) (rest := []) [.rd 2 [] 0 0] [0, 1, 4, 6, 7, 10, 11, 12] (E1 := fun _ => [(0, .val (.slice a xs.length c)), (1, .val (.slice b ys.length d)), (4, .val (.nilIface)), (6, .val (.slice b ys.length d)), (7, .val (.iface 243 (.pointer (some (er (vecErr ys)))))), (10, .val (.slice (some (⟨nu1 0, 0, none⟩)) 2 2)), (11, .val (.int .i64 2)), (12, .val (.int .i64 1))]) (h1 := fun _ => [(nu1 0, .cells #[.slice a xs.length c, .slice b ys.length d] 25 (0, 0))]) (p1 := fun _ => []) (W1 := []) (fun _ => by kernel_rfl) (fun _ => trivial) (fun _ => ?_)
      refine JR_end ?_
      refine J_seq ?_
      refine J_reg mixed [.rd 0 [] 0 0, .rd 1 [] 0 0] [] [0, 1, 4, 6, 7, 10, 11, 12, 19] (E1 := fun _ => [(0, .val (.slice a xs.length c)), (1, .val (.slice b ys.length d)), (4, .val (.nilIface)), (6, .val (.slice b ys.length d)), (7, .val (.iface 243 (.pointer (some (er (vecErr ys)))))), (10, .val (.slice (some (⟨nu1 0, 0, none⟩)) 2 2)), (11, .val (.int .i64 2)), (12, .val (.int .i64 1)), (19, .val (.bool true))]) (h1 := fun _ => [(nu1 0, .cells #[.slice a xs.length c, .slice b ys.length d] 25 (0, 0))]) (p1 := fun _ => []) (W1 := []) (by kernel_rfl) (fun _ => by kernel_rfl) (fun _ => trivial) (fun _ => ?_)
      refine J_cond_t (by kernel_rfl) (by kernel_rfl) ?_
      refine J_seq ?_
      refine J_reg mixed [.rd 0 [] 0 0, .rd 1 [] 0 0] [] [0, 1, 4, 6, 7, 10, 11, 12] (E1 := fun _ => [(0, .val (.slice a xs.length c)), (1, .val (.slice b ys.length d)), (4, .val (.iface 243 (.pointer (some (er (vecErr ys)))))), (6, .val (.slice b ys.length d)), (7, .val (.iface 243 (.pointer (some (er (vecErr ys)))))), (10, .val (.slice (some (⟨nu1 0, 0, none⟩)) 2 2)), (11, .val (.int .i64 2)), (12, .val (.int .i64 1))]) (h1 := fun _ => [(nu1 0, .cells #[.slice a xs.length c, .slice b ys.length d] 25 (0, 0))]) (p1 := fun _ => []) (W1 := []) (by kernel_rfl) (fun _ => by kernel_rfl) (fun _ => trivial) (fun _ => ?_)
      refine J_return [[]] (.iface 243 (.pointer (some (er (vecErr ys))))) (by kernel_rfl) (fun a w s => ?_)
      exact ⟨_, s.ret (by simp) [] [] rfl rfl, .inr (by rw [twoErr, if_neg (by simp [h0]), if_pos h2]; exact ⟨h2, rfl⟩)⟩
  · refine J_seq ?_
    refine J_reg mixed [.rd 0 [] 0 0] [] [0, 1, 4, 10, 11, 12, 13] (E1 := fun _ => [(0, .val (.slice a xs.length c)), (1, .val (.slice b ys.length d)), (4, .val (.nilIface)), (10, .val (.slice (some (⟨nu1 0, 0, none⟩)) 2 2)), (11, .val (.int .i64 2)), (12, .val (.int .i64 2)), (13, .val (.bool false))]) (h1 := fun _ => [(nu1 0, .cells #[.slice a xs.length c, .slice b ys.length d] 25 (0, 0))]) (p1 := fun _ => []) (W1 := []) (by kernel_rfl) (fun _ => by kernel_rfl) (fun _ => trivial) (fun _ => ?_)
    refine J_seq ?_
    refine J_cond_f (by kernel_rfl) (by kernel_rfl) ?_
    refine J_exit rfl ?_
    refine J_seq ?_
    refine J_seq ?_
    refine J_reg mixed [.rd 0 [] 0 0, .rd 1 [] 0 0, .rd 2 [] 0 0, .rd 3 [] 0 0, .rd 4 [] 0 0] [] [4, 26] (E1 := fun _ => [(4, .val (.nilIface)), (26, .val (.bool ((↑xs.length : Int) != (↑ys.length : Int))))]) (h1 := fun _ => [(nu1 0, .cells #[.slice a xs.length c, .slice b ys.length d] 25 (0, 0))]) (p1 := fun _ => []) (W1 := []) (by kernel_rfl) (fun _ => by kernel_rfl) (fun _ => trivial) (fun _ => ?_)
    refine J_cond (t := (↑xs.length : Int) != (↑ys.length : Int)) (by kernel_rfl) (by kernel_rfl) (fun hne => ?_) (fun hne => ?_)
    · refine J_seq ?_
      refine J_reg mixed [.rd 0 [.r 0 (some (.iface 243 (.pointer (some (er 3)))))] 0 0, .rd 1 [] 0 0] [] [4] (E1 := fun _ => [(4, .val (.iface 243 (.pointer (some (er 3)))))]) (h1 := fun _ => [(nu1 0, .cells #[.slice a xs.length c, .slice b ys.length d] 25 (0, 0))]) (p1 := fun _ => [csg1[(0 : Nat)]? = some (Value.iface (243 : Nat) (Value.pointer (some (er (3 : Nat)))))]) (W1 := []) (by kernel_rfl) (fun _ => by kernel_rfl) (fun _ => ⟨hglob1, trivial⟩) (fun _ => ?_)
      refine J_return [[]] (.iface 243 (.pointer (some (er 3)))) (by kernel_rfl) (fun a w s => ?_)
      exact ⟨_, s.ret (by simp) [] [] rfl rfl, .inr (by rw [twoErr, if_neg (by simp [h0]), if_neg (by simp [h1]), if_pos (by simp at hne; omega)]; exact ⟨by decide, rfl⟩)⟩
    · refine J_skip ?_
      refine J_seq ?_
      refine J_reg mixed [.rd 0 [] 0 0] [] [4] (E1 := fun _ => [(4, .val (.nilIface))]) (h1 := fun _ => [(nu1 0, .cells #[.slice a xs.length c, .slice b ys.length d] 25 (0, 0))]) (p1 := fun _ => []) (W1 := []) (by kernel_rfl) (fun _ => by kernel_rfl) (fun _ => trivial) (fun _ => ?_)
      refine J_return [[]] (.nilIface) (by kernel_rfl) (fun a w s => ?_)
      exact ⟨_, s.ret (by simp) [] [] rfl rfl, .inl ⟨by rw [twoErr, if_neg (by simp [h0]), if_neg (by simp [h1]), if_neg (by simp at hne; omega)], rfl⟩⟩

/-- Is each time of xs at most that of ys? -/
def inL (xs ys : List Int) : Bool := (xs.zip ys).all fun p => decide (p.1 ≤ p.2)
theorem inL_true {xs ys : List Int} (hl : xs.length = ys.length) (h : ∀ (j : Nat) x y, xs[j]? = some x → ys[j]? = some y → x ≤ y) : inL xs ys = true := by
  unfold inL
  rw [List.all_eq_true]
  rintro ⟨x, y⟩ hm
  obtain ⟨j, hj⟩ := List.getElem?_of_mem hm
  rw [List.getElem?_zip_eq_some] at hj
  simpa using h j x y hj.1 hj.2
theorem inL_false {xs ys : List Int} {j : Nat} {x y : Int} (hx : xs[j]? = some x) (hy : ys[j]? = some y) (h : y < x) : inL xs ys = false := by
  unfold inL
  rw [List.all_eq_false]
  exact ⟨(x, y), List.mem_of_getElem? (List.getElem?_zip_eq_some.2 ⟨hx, hy⟩), by simpa using h⟩

theorem vin {w : World} {S : Nat → Prop} {a b : Option Addr} {n m c d : Nat} {xs ys : List Int} (ha : Rep w S (.slice a n c) (dInts xs)) (hb : Rep w S (.slice b m d) (dInts ys)) (hl : xs.length ≤ 1000000) (hxy : xs.length = ys.length) :
    Calls Tryz.prog 85 #[.slice a n c, .slice b m d] w fun e w' => Ret [] w S w' e (.bool (inL xs ys)) [] [] := by
  obtain rfl := rep_ints_len ha
  obtain rfl := rep_ints_len hb
  refine ep85 (args := [.slice a xs.length c, .slice b ys.length d]) (G := [(_, dInts xs), (_, dInts ys)]) (by kernel_rfl) (.cons ha (.cons hb (.nil _ _))) ?_
  refine J_seq ?_
  refine J_reg mixed [.rd 0 [] 0 0] [] [0, 1, 4] (E1 := fun _ => [(0, .val (.slice a xs.length c)), (1, .val (.slice b ys.length d)), (4, .val (.bool false))]) (h1 := fun _ => []) (p1 := fun _ => []) (W1 := []) (by kernel_rfl) (fun _ => by kernel_rfl) (fun _ => trivial) (fun _ => ?_)
  refine J_seq ?_
  refine J_seq ?_
  refine J_reg mixed [.rd 0 [] 0 0, .rd 1 [] 0 0, .rd 2 [] 0 0] [] [1, 4, 7, 8, 9] (E1 := fun _ => [(1, .val (.slice b ys.length d)), (4, .val (.bool false)), (7, .val (.slice a xs.length c)), (8, .val (.int .i64 (↑xs.length : Int))), (9, .val (.int .i64 0))]) (h1 := fun _ => []) (p1 := fun _ => []) (W1 := []) (by kernel_rfl) (fun _ => by kernel_rfl) (fun _ => trivial) (fun _ => ?_)
  refine J_block ?_
  refine J_loopx (fun i : Int => [(1, .val (.slice b ys.length d)), (4, .val (.bool false)), (7, .val (.slice a xs.length c)), (8, .val (.int .i64 (↑xs.length : Int))), (9, .val (.int .i64 i))]) (fun i : Int => []) (fun i : Int => []) (fun i : Int => [(.slice a xs.length c, (dInts xs)), (.slice b ys.length d, (dInts ys))]) (fun i : Int => (xs.length - i).toNat) (fun i : Int => (0 ≤ i ∧ i ≤ xs.length ∧ ∀ j : Nat, j < i.toNat → ∀ x y, xs[j]? = some x → ys[j]? = some y → x ≤ y)) 0 [1, 4, 7, 8, 9] [] [] [0, 1] ?_ (by kernel_rfl) rfl rfl rfl ?_
  · exact ⟨by simp, by omega, by simp⟩
  rintro i ⟨hi0, hi, hno⟩
  refine J_seq ?_
  refine J_reg mixed [.rd 0 [] 0 0] [] [1, 4, 7, 8, 9, 10] (E1 := fun _ => [(1, .val (.slice b ys.length d)), (4, .val (.bool false)), (7, .val (.slice a xs.length c)), (8, .val (.int .i64 (↑xs.length : Int))), (9, .val (.int .i64 i)), (10, .val (.bool (decide (i < (↑xs.length : Int)))))]) (h1 := fun _ => []) (p1 := fun _ => []) (W1 := []) (by kernel_rfl) (fun _ => by kernel_rfl) (fun _ => trivial) (fun _ => ?_)
  refine J_seq ?_
  refine J_cond (t := decide (i < (↑xs.length : Int))) (by kernel_rfl) (by kernel_rfl) (fun hlt => ?_) (fun hlt => ?_)
  · have hlt2 : i < xs.length := by simpa using hlt
    obtain ⟨x, hx⟩ : ∃ x, xs[i.toNat]? = some x := ⟨_, List.getElem?_eq_getElem (by omega)⟩
    obtain ⟨y, hy⟩ : ∃ y, ys[i.toNat]? = some y := ⟨_, List.getElem?_eq_getElem (by omega)⟩
    refine J_read0 0 rfl i.toNat (map_at hx) (by kernel_rfl) (fun b1 off1 cs1 ty1 fz1 ha1 hrd1 => ?_)
    cases ha1
    have hrd1_0 := rd0 (hrd1 0 _ rfl)
    refine J_read0 1 rfl i.toNat (map_at hy) (by kernel_rfl) (fun b2 off2 cs2 ty2 fz2 ha2 hrd2 => ?_)
    cases ha2
    have hrd2_0 := rd0 (hrd2 0 _ rfl)
    try simp only [List.cons_append, List.nil_append, List.append_nil]
    refine J_skip ?_
    refine J_seq ?_
    refine J_block ?_
    refine J_seq ?_
    refine J_reg mixed [.rd 0 [] 0 0, .rd 1 [] 0 2, .rd 2 [.r 0 (some (.int .i64 x))] 0 0, .rd 3 [] 0 0, .rd 4 [] 0 0] [] [1, 4, 5, 6, 7, 8, 9] (E1 := fun _ => [(1, .val (.slice (some (⟨b2, off2, none⟩)) ys.length d)), (4, .val (.bool false)), (5, .val (.int .i64 i)), (6, .val (.int .i64 x)), (7, .val (.slice (some (⟨b1, off1, none⟩)) xs.length c)), (8, .val (.int .i64 (↑xs.length : Int))), (9, .val (.int .i64 i))]) (h1 := fun _ => []) (p1 := fun _ => [(0 : Int) ≤ i, i < (↑xs.length : Int), cs1[off1 + i.toNat * (1 : Nat)]? = some (Value.int IntKind.i64 x)]) (W1 := []) (by kernel_rfl) (fun _ => by kernel_rfl) (fun _ => ⟨hi0, hlt2, hrd1_0, trivial⟩) (fun _ => ?_)
    refine J_seq ?_
    refine J_reg mixed [.rd 0 [] 0 0, .rd 1 [] 0 0, .rd 2 [] 0 0, .rd 3 [] 0 2, .rd 4 [.r 1 (some (.int .i64 y))] 0 0, .rd 5 [] 0 0] [] [1, 4, 5, 6, 7, 8, 9, 19] (E1 := fun _ => [(1, .val (.slice (some (⟨b2, off2, none⟩)) ys.length d)), (4, .val (.bool false)), (5, .val (.int .i64 i)), (6, .val (.int .i64 x)), (7, .val (.slice (some (⟨b1, off1, none⟩)) xs.length c)), (8, .val (.int .i64 (↑xs.length : Int))), (9, .val (.int .i64 i)), (19, .val (.bool (decide (x > y))))]) (h1 := fun _ => []) (p1 := fun _ => [(0 : Int) ≤ i, i < (↑ys.length : Int), cs2[off2 + i.toNat * (1 : Nat)]? = some (Value.int IntKind.i64 y)]) (W1 := []) (by kernel_rfl) (fun _ => by kernel_rfl) (fun _ => ⟨hi0, by omega, hrd2_0, trivial⟩) (fun _ => ?_)
    refine J_cond (t := decide (x > y)) (by kernel_rfl) (by kernel_rfl) (fun hgt => ?_) (fun hgt => ?_)
    · refine J_seq ?_
      refine J_reg mixed [.rd 0 [] 0 0] [] [1, 4, 5, 6, 7, 8, 9] (E1 := fun _ => [(1, .val (.slice (some (⟨b2, off2, none⟩)) ys.length d)), (4, .val (.bool false)), (5, .val (.int .i64 i)), (6, .val (.int .i64 x)), (7, .val (.slice (some (⟨b1, off1, none⟩)) xs.length c)), (8, .val (.int .i64 (↑xs.length : Int))), (9, .val (.int .i64 i))]) (h1 := fun _ => []) (p1 := fun _ => []) (W1 := []) (by kernel_rfl) (fun _ => by kernel_rfl) (fun _ => trivial) (fun _ => ?_)
      refine J_return [[]] (.bool false) (by kernel_rfl) (fun a w s => ?_)
      rw [inL_false hx hy (by simpa using hgt)]
      exact s.ret (by simp) [] [] rfl rfl
    · refine J_skip ?_
      refine J_eb ?_
      refine J_reg mixed [.rd 0 [] 0 1, .rd 1 [] 0 0] [] [1, 4, 5, 6, 7, 8, 9] (E1 := fun _ => [(1, .val (.slice (some (⟨b2, off2, none⟩)) ys.length d)), (4, .val (.bool false)), (5, .val (.int .i64 i)), (6, .val (.int .i64 x)), (7, .val (.slice (some (⟨b1, off1, none⟩)) xs.length c)), (8, .val (.int .i64 (↑xs.length : Int))), (9, .val (.int .i64 (i + 1)))]) (h1 := fun _ => []) (p1 := fun _ => [IntKind.i64.wrap (i + (1 : Int)) = i + (1 : Int)]) (W1 := []) (by kernel_rfl) (fun _ => by kernel_rfl) (fun _ => ⟨wrap_i64 (by omega) (by omega), trivial⟩) (fun _ => ?_)
      refine J_backx (i + 1) [1, 4, 7, 8, 9] [] [] [0, 1] ?_ ?_ (by kernel_rfl) rfl rfl rfl
      · refine ⟨by omega, by omega, fun j hj x' y' hx' hy' => ?_⟩
        by_cases hji : j = i.toNat
        · subst hji
          rw [hx] at hx'
          rw [hy] at hy'
          cases hx'
          cases hy'
          simpa using hgt
        · exact hno j (by omega) x' y' hx' hy'
      · omega
  · refine J_exit rfl ?_
    refine J_seq ?_
    refine J_reg mixed [.rd 0 [] 0 0] [] [4] (E1 := fun _ => [(4, .val (.bool true))]) (h1 := fun _ => []) (p1 := fun _ => []) (W1 := []) (by kernel_rfl) (fun _ => by kernel_rfl) (fun _ => trivial) (fun _ => ?_)
    refine J_return [[]] (.bool true) (by kernel_rfl) (fun a w s => ?_)
    rw [inL_true hxy fun j x y hx hy => hno j (by have := (List.getElem?_eq_some_iff.1 hx).1; simp at hlt; omega) x y hx hy]
    exact s.ret (by simp) [] [] rfl rfl

theorem howMost {w : World} {S : Nat → Prop} {x y : Int} : Calls Tryz.prog 111 #[.int .i64 x, .int .i64 y] w fun e w' => Ret [] w S w' e (.int .i64 (max x y)) [] [] := by
  refine ep111 (args := [.int .i64 x, .int .i64 y]) (G := []) (by kernel_rfl) (AllG.nil w S) ?_
  refine J_seq ?_
  refine J_reg mixed [.rd 0 [] 0 0] [] [0, 1, 4] (E1 := fun _ => [(0, .val (.int .i64 x)), (1, .val (.int .i64 y)), (4, .val (.int .i64 0))]) (h1 := fun _ => []) (p1 := fun _ => []) (W1 := []) (by kernel_rfl) (fun _ => by kernel_rfl) (fun _ => trivial) (fun _ => ?_)
  refine J_seq ?_
  refine J_reg mixed [.rd 0 [] 0 0, .rd 1 [] 0 0, .rd 2 [] 0 0, .rd 3 [] 0 0] [] [4] (E1 := fun _ => [(4, .val (.int .i64 (if y > x then y else x)))]) (h1 := fun _ => []) (p1 := fun _ => []) (W1 := []) (by kernel_rfl) (fun _ => by kernel_rfl) (fun _ => trivial) (fun _ => ?_)
  refine J_return [[]] (.int .i64 (if y > x then y else x)) (by kernel_rfl) (fun a w s => ?_)
  have e : max x y = if y > x then y else x := by split <;> omega
  rw [e]
  exact s.ret (by simp) [] [] rfl rfl

theorem eachMost {w : World} {S : Nat → Prop} {er : Nat → Addr} {a b : Option Addr} {n m c d : Nat} {xs ys : List Int} (hE : AllG w S (globs er)) (ha : Rep w S (.slice a n c) (dInts xs)) (hb : Rep w S (.slice b m d) (dInts ys)) (hl : xs.length ≤ 1000000) (hl2 : ys.length ≤ 1000000) :
    Calls Tryz.prog 110 #[.slice a n c, .slice b m d, .func (.func 111) #[] #[]] w fun e w' =>
      (twoErr xs ys ≠ 0 ∧ Ret [] w S w' e (.tuple #[.slice none 0 0, errV 243 er (twoErr xs ys)]) [] []) ∨
      (twoErr xs ys = 0 ∧ ∃ a' n' c', Ret [] w S w' e (.tuple #[.slice a' n' c', .nilIface]) [] [(.slice a' n' c', dInts (List.zipWith max xs ys))]) := by
  obtain rfl := rep_ints_len ha
  obtain rfl := rep_ints_len hb
  refine ep110 (args := [.slice a xs.length c, .slice b ys.length d, .func (.func 111) #[] #[]]) (G := globs er ++ [(_, dInts xs), (_, dInts ys)]) (by kernel_rfl) (hE.app (.cons ha (.cons hb (.nil _ _)))) ?_
  try simp only [List.cons_append, List.nil_append, List.append_nil]
  refine J_seq ?_
  refine J_reg mixed [.rd 0 [] 0 0, .rd 1 [] 0 0] [] [0, 1, 2, 6, 7] (E1 := fun _ => [(0, .val (.slice a xs.length c)), (1, .val (.slice b ys.length d)), (2, .val (.func (.func 111) #[] #[])), (6, .val (.slice none 0 0)), (7, .val (.nilIface))]) (h1 := fun _ => []) (p1 := fun _ => []) (W1 := []) (by kernel_rfl) (fun _ => by kernel_rfl) (fun _ => trivial) (fun _ => ?_)
  refine J_seq ?_
  refine J_seq ?_
  refine JR_begin mixed [(0, true), (1, true), (2, false), (3, true)] [] (by kernel_rfl) (by kernel_rfl) ?_
  refine JR_run (id := 1) (rest := [(2, false), (3, true)]) [.rd 0 [] 0 0, .rd 1 [] 0 0] [0, 1, 2, 6, 7, 12, 13] (E1 := fun _ => [(0, .val (.slice a xs.length c)), (1, .val (.slice b ys.length d)), (2, .val (.func (.func 111) #[] #[])), (6, .val (.slice none 0 0)), (7, .val (.nilIface)), (12, .val (.slice a xs.length c)), (13, .val (.slice b ys.length d))]) (h1 := fun _ => []) (p1 := fun _ => []) (W1 := []) (fun _ => by kernel_rfl) (fun _ => trivial) (fun _ => ?_)
  refine JR_callp [] 84 #[.slice a xs.length c, .slice b ys.length d] (some 14) (by kernel_rfl) (fun w S hG => ?_)
  refine (vtwo (hG.pick [0, 1, 2] rfl) (hG.at 3 rfl) (hG.at 4 rfl) hl hl2).mono ?_
  rintro e w2 ⟨v, hR, ⟨h2, rfl⟩ | ⟨h2, rfl⟩⟩
  · refine ⟨_, _, _, hR, ?_⟩
    have hxy : xs.length = ys.length := by
      unfold twoErr at h2
      split at h2
      · exact absurd h2 ‹_›
      · split at h2
        · exact absurd h2 ‹_›
        · split at h2
          · cases h2
          · omega
    try simp only [List.cons_append, List.nil_append, List.append_nil]
    refine JR_run (id := 1) (rest := []) [.rd 3 [] 0 0] [0, 1, 2, 6, 7, 8] (E1 := fun _ => [(0, .val (.slice a xs.length c)), (1, .val (.slice b ys.length d)), (2, .val (.func (.func 111) #[] #[])), (6, .val (.slice none 0 0)), (7, .val (.nilIface)), (8, .val (.nilIface))]) (h1 := fun _ => []) (p1 := fun _ => []) (W1 := []) (fun _ => by kernel_rfl) (fun _ => trivial) (fun _ => ?_)
    refine JR_end ?_
    refine J_seq ?_
    refine J_reg mixed [.rd 0 [] 0 0, .rd 1 [] 0 0] [] [0, 1, 2, 6, 7, 8, 16] (E1 := fun _ => [(0, .val (.slice a xs.length c)), (1, .val (.slice b ys.length d)), (2, .val (.func (.func 111) #[] #[])), (6, .val (.slice none 0 0)), (7, .val (.nilIface)), (8, .val (.nilIface)), (16, .val (.bool false))]) (h1 := fun _ => []) (p1 := fun _ => []) (W1 := []) (by kernel_rfl) (fun _ => by kernel_rfl) (fun _ => trivial) (fun _ => ?_)
    refine J_cond_f (by kernel_rfl) (by kernel_rfl) ?_
    refine J_skip ?_
    refine J_seq ?_
    refine J_reg mixed [.rd 0 [] 0 0] [] [0, 1, 2, 6, 7, 9] (E1 := fun _ => [(0, .val (.slice a xs.length c)), (1, .val (.slice b ys.length d)), (2, .val (.func (.func 111) #[] #[])), (6, .val (.slice none 0 0)), (7, .val (.nilIface)), (9, .val (.slice none 0 0))]) (h1 := fun _ => []) (p1 := fun _ => []) (W1 := []) (by kernel_rfl) (fun _ => by kernel_rfl) (fun _ => trivial) (fun _ => ?_)
    refine J_seq ?_
    refine J_seq ?_
    refine J_reg mixed [.rd 0 [] 0 0, .rd 1 [] 0 0, .rd 2 [] 0 0] [] [1, 2, 6, 7, 9, 18, 19, 20] (E1 := fun _ => [(1, .val (.slice b ys.length d)), (2, .val (.func (.func 111) #[] #[])), (6, .val (.slice none 0 0)), (7, .val (.nilIface)), (9, .val (.slice none 0 0)), (18, .val (.slice a xs.length c)), (19, .val (.int .i64 (↑xs.length : Int))), (20, .val (.int .i64 0))]) (h1 := fun _ => []) (p1 := fun _ => []) (W1 := []) (by kernel_rfl) (fun _ => by kernel_rfl) (fun _ => trivial) (fun _ => ?_)
    refine J_block ?_
    refine J_stp (stp_acc 3 1) ?_
    refine J_loopx (fun x : AccI => [(1, .val (.slice b ys.length d)), (2, .val (.func (.func 111) #[] #[])), (6, .val (.slice none 0 0)), (7, .val (.nilIface)), (9, .val (.slice x.a x.k x.c)), (18, .val (.slice a xs.length c)), (19, .val (.int .i64 (↑xs.length : Int))), (20, .val (.int .i64 x.i))]) (fun x : AccI => []) (fun x : AccI => [cAcc (.slice x.a x.k x.c) 3 1 ((List.take x.i.toNat (List.zipWith max xs ys)).map eI)]) (fun x : AccI => [(.nilIface, (D.v Value.nilIface)), (.pointer (some (⟨0, 0, none⟩)), (D.ptr [D.v (Value.iface 243 (Value.pointer (some (er 2))))])), (.pointer (some (⟨3, 0, none⟩)), (D.ptr [D.v (Value.iface 243 (Value.pointer (some (er 3))))])), (.slice a xs.length c, (dInts xs)), (.slice b ys.length d, (dInts ys))]) (fun x : AccI => (xs.length - x.i).toNat) (fun x : AccI => (0 ≤ x.i ∧ x.i ≤ xs.length)) ⟨0, none, 0, 0⟩ [1, 2, 6, 7, 9, 18, 19, 20] [] [0] [0, 1, 2, 3, 4] ?_ (by kernel_rfl) rfl rfl rfl ?_
    · exact ⟨by simp, by simp⟩
    rintro ⟨i, av, k, cv⟩ ⟨hi0, hi⟩
    dsimp only at hi0 hi ⊢
    refine J_stpx (stp_acclen 0 rfl) fun _ hk => ?_
    have hk2 : k ≤ xs.length := by simp at hk; omega
    refine J_seq ?_
    refine J_reg mixed [.rd 0 [] 0 0] [] [1, 2, 6, 7, 9, 18, 19, 20, 21] (E1 := fun _ => [(1, .val (.slice b ys.length d)), (2, .val (.func (.func 111) #[] #[])), (6, .val (.slice none 0 0)), (7, .val (.nilIface)), (9, .val (.slice av k cv)), (18, .val (.slice a xs.length c)), (19, .val (.int .i64 (↑xs.length : Int))), (20, .val (.int .i64 i)), (21, .val (.bool (decide (i < (↑xs.length : Int)))))]) (h1 := fun _ => []) (p1 := fun _ => []) (W1 := []) (by kernel_rfl) (fun _ => by kernel_rfl) (fun _ => trivial) (fun _ => ?_)
    refine J_seq ?_
    refine J_cond (t := decide (i < (↑xs.length : Int))) (by kernel_rfl) (by kernel_rfl) (fun hlt => ?_) (fun hlt => ?_)
    · have hlt2 : i < xs.length := by simpa using hlt
      obtain ⟨x, hx⟩ : ∃ x, xs[i.toNat]? = some x := ⟨_, List.getElem?_eq_getElem (by omega)⟩
      obtain ⟨y, hy⟩ : ∃ y, ys[i.toNat]? = some y := ⟨_, List.getElem?_eq_getElem (by omega)⟩
      refine J_read0 3 rfl i.toNat (map_at hx) (by kernel_rfl) (fun b1 off1 cs1 ty1 fz1 ha1 hrd1 => ?_)
      cases ha1
      have hrd1_0 := rd0 (hrd1 0 _ rfl)
      refine J_read0 4 rfl i.toNat (map_at hy) (by kernel_rfl) (fun b2 off2 cs2 ty2 fz2 ha2 hrd2 => ?_)
      cases ha2
      have hrd2_0 := rd0 (hrd2 0 _ rfl)
      try simp only [List.cons_append, List.nil_append, List.append_nil]
      refine J_skip ?_
      refine J_seq ?_
      refine J_block ?_
      refine J_seq ?_
      refine J_reg mixed [.rd 0 [] 0 0, .rd 1 [] 0 2, .rd 2 [.r 0 (some (.int .i64 x))] 0 0, .rd 3 [] 0 0, .rd 4 [] 0 0] [] [1, 2, 6, 7, 9, 10, 11, 18, 19, 20] (E1 := fun _ => [(1, .val (.slice (some (⟨b2, off2, none⟩)) ys.length d)), (2, .val (.func (.func 111) #[] #[])), (6, .val (.slice none 0 0)), (7, .val (.nilIface)), (9, .val (.slice av k cv)), (10, .val (.int .i64 i)), (11, .val (.int .i64 x)), (18, .val (.slice (some (⟨b1, off1, none⟩)) xs.length c)), (19, .val (.int .i64 (↑xs.length : Int))), (20, .val (.int .i64 i))]) (h1 := fun _ => []) (p1 := fun _ => [(0 : Int) ≤ i, i < (↑xs.length : Int), cs1[off1 + i.toNat * (1 : Nat)]? = some (Value.int IntKind.i64 x)]) (W1 := []) (by kernel_rfl) (fun _ => by kernel_rfl) (fun _ => ⟨hi0, hlt2, hrd1_0, trivial⟩) (fun _ => ?_)
      refine JR_begin mixed [(0, true), (1, true), (2, true), (3, true), (4, true), (5, true), (6, true), (7, false), (8, false), (9, false), (10, true)] [] (by kernel_rfl) (by kernel_rfl) ?_
      refine JR_run (id := 8) (rest := [(7, false), (8, false), (9, false), (10, true)]) [.rd 0 [] 0 0, .rd 1 [] 0 0, .rd 2 [] 0 0, .rd 3 [] 0 0, .rd 4 [] 0 0, .rd 5 [] 0 2, .rd 6 [.r 1 (some (.int .i64 y))] 0 0] [1, 2, 6, 7, 9, 10, 11, 18, 19, 20, 25, 26, 27, 31] (E1 := fun _ => [(1, .val (.slice (some (⟨b2, off2, none⟩)) ys.length d)), (2, .val (.func (.func 111) #[] #[])), (6, .val (.slice none 0 0)), (7, .val (.nilIface)), (9, .val (.slice av k cv)), (10, .val (.int .i64 i)), (11, .val (.int .i64 x)), (18, .val (.slice (some (⟨b1, off1, none⟩)) xs.length c)), (19, .val (.int .i64 (↑xs.length : Int))), (20, .val (.int .i64 i)), (25, .val (.slice av k cv)), (26, .val (.func (.func 111) #[] #[])), (27, .val (.int .i64 x)), (31, .val (.int .i64 y))]) (h1 := fun _ => []) (p1 := fun _ => [(0 : Int) ≤ i, i < (↑ys.length : Int), cs2[off2 + i.toNat * (1 : Nat)]? = some (Value.int IntKind.i64 y)]) (W1 := []) (fun _ => by kernel_rfl) (fun _ => ⟨hi0, by omega, hrd2_0, trivial⟩) (fun _ => ?_)
      refine JR_callp [] 111 #[.int .i64 x, .int .i64 y] (some 32) (by kernel_rfl) (fun w S hG => ?_)
      refine (howMost (S := S)).mono ?_
      rintro e w3 hR
      refine ⟨_, _, _, hR, ?_⟩
      try simp only [List.cons_append, List.nil_append, List.append_nil]
      refine JR_run (id := 8) (rest := [(9, false), (10, true)]) [.wr 8 [] 0] [1, 2, 6, 7, 9, 10, 11, 18, 19, 20, 25, 33] (E1 := fun nu1 => [(1, .val (.slice (some (⟨b2, off2, none⟩)) ys.length d)), (2, .val (.func (.func 111) #[] #[])), (6, .val (.slice none 0 0)), (7, .val (.nilIface)), (9, .val (.slice av k cv)), (10, .val (.int .i64 i)), (11, .val (.int .i64 x)), (18, .val (.slice (some (⟨b1, off1, none⟩)) xs.length c)), (19, .val (.int .i64 (↑xs.length : Int))), (20, .val (.int .i64 i)), (25, .val (.slice av k cv)), (33, .val (.slice (some (⟨nu1 0, 0, none⟩)) 1 1))]) (h1 := fun nu1 => [(nu1 0, .cells #[.int .i64 (max x y)] 3 (0, 0))]) (p1 := fun nu1 => []) (W1 := []) (fun _ => by kernel_rfl) (fun _ => trivial) (fun nu1 => ?_)
      refine JR_appm 0 25 3 1 8 (.int .i64 0) (a0 := av) (len := k) (cap0 := cv) (ax := (some (⟨nu1 0, 0, none⟩))) (m := 1) (c := 1) (dst := (some 34)) [(max x y)] (by kernel_rfl) (by kernel_rfl) (by kernel_rfl) (by kernel_rfl) rfl (by decide) rfl (fun _ _ _ s => src_one s 0 rfl rfl ⟨.inl ⟨rfl, rfl⟩, trivial⟩) (by simp only [maxLen]; omega) (by omega) (fun av1 cv1 => ?_)
      try simp only [List.cons_append, List.nil_append, List.append_nil]
      refine JR_run (id := 8) (rest := []) [.rd 10 [] 0 0] [1, 2, 6, 7, 9, 10, 11, 18, 19, 20] (E1 := fun _ => [(1, .val (.slice (some (⟨b2, off2, none⟩)) ys.length d)), (2, .val (.func (.func 111) #[] #[])), (6, .val (.slice none 0 0)), (7, .val (.nilIface)), (9, .val (.slice av1 (k + 1) cv1)), (10, .val (.int .i64 i)), (11, .val (.int .i64 x)), (18, .val (.slice (some (⟨b1, off1, none⟩)) xs.length c)), (19, .val (.int .i64 (↑xs.length : Int))), (20, .val (.int .i64 i))]) (h1 := fun _ => [(nu1 0, .cells #[.int .i64 (max x y)] 3 (0, 0))]) (p1 := fun _ => []) (W1 := []) (fun _ => by kernel_rfl) (fun _ => trivial) (fun _ => ?_)
      try simp only [List.cons_append, List.nil_append, List.append_nil]
      refine JR_end ?_
      try simp only [List.cons_append, List.nil_append, List.append_nil]
      refine J_eb ?_
      try simp only [List.cons_append, List.nil_append, List.append_nil]
      refine J_reg mixed [.rd 0 [] 0 1, .rd 1 [] 0 0] [] [1, 2, 6, 7, 9, 10, 11, 18, 19, 20] (E1 := fun _ => [(1, .val (.slice (some (⟨b2, off2, none⟩)) ys.length d)), (2, .val (.func (.func 111) #[] #[])), (6, .val (.slice none 0 0)), (7, .val (.nilIface)), (9, .val (.slice av1 (k + 1) cv1)), (10, .val (.int .i64 i)), (11, .val (.int .i64 x)), (18, .val (.slice (some (⟨b1, off1, none⟩)) xs.length c)), (19, .val (.int .i64 (↑xs.length : Int))), (20, .val (.int .i64 (i + 1)))]) (h1 := fun _ => [(nu1 0, .cells #[.int .i64 (max x y)] 3 (0, 0))]) (p1 := fun _ => [IntKind.i64.wrap (i + (1 : Int)) = i + (1 : Int)]) (W1 := []) (by kernel_rfl) (fun _ => by kernel_rfl) (fun _ => ⟨wrap_i64 (by omega) (by omega), trivial⟩) (fun _ => ?_)
      try simp only [List.cons_append, List.nil_append, List.append_nil]
      rw [take_snoc hi0 (List.getElem?_zipWith_eq_some.2 ⟨x, y, hx, hy, rfl⟩)]
      refine J_backx ⟨i + 1, av1, k + 1, cv1⟩ [1, 2, 6, 7, 9, 18, 19, 20] [] [0] [0, 1, 2, 3, 4] ?_ ?_ (by kernel_rfl) rfl rfl rfl
      · exact ⟨by simp only; omega, by simp only; omega⟩
      · simp only
        omega
    · refine J_exit rfl ?_
      refine J_seq ?_
      refine J_reg mixed [.rd 0 [] 0 0, .rd 1 [] 0 0, .rd 2 [] 0 0] [] [6, 7] (E1 := fun _ => [(6, .val (.slice av k cv)), (7, .val (.nilIface))]) (h1 := fun _ => []) (p1 := fun _ => []) (W1 := []) (by kernel_rfl) (fun _ => by kernel_rfl) (fun _ => trivial) (fun _ => ?_)
      refine J_return [[], []] (.tuple #[.slice av k cv, .nilIface]) (by kernel_rfl) (fun a w s => ?_)
      refine .inr ⟨h2, av, k, cv, ?_⟩
      have e : List.take i.toNat (List.zipWith max xs ys) = List.zipWith max xs ys := List.take_of_length_le (by simp at hlt ⊢; omega)
      have s2 := s.stp (stp_freeze 0 rfl)
      rw [e] at s2
      exact s2.ret (by simp) [] [5] rfl rfl
  · refine ⟨_, _, _, hR, ?_⟩
    try simp only [List.cons_append, List.nil_append, List.append_nil]
    refine JR_run (id := 1) (rest := []) [.rd 3 [] 0 0] [0, 1, 2, 6, 7, 8] (E1 := fun _ => [(0, .val (.slice a xs.length c)), (1, .val (.slice b ys.length d)), (2, .val (.func (.func 111) #[] #[])), (6, .val (.slice none 0 0)), (7, .val (.nilIface)), (8, .val (.iface 243 (.pointer (some (er (twoErr xs ys))))))]) (h1 := fun _ => []) (p1 := fun _ => []) (W1 := []) (fun _ => by kernel_rfl) (fun _ => trivial) (fun _ => ?_)
    refine JR_end ?_
    refine J_seq ?_
    refine J_reg mixed [.rd 0 [] 0 0, .rd 1 [] 0 0] [] [0, 1, 2, 6, 7, 8, 16] (E1 := fun _ => [(0, .val (.slice a xs.length c)), (1, .val (.slice b ys.length d)), (2, .val (.func (.func 111) #[] #[])), (6, .val (.slice none 0 0)), (7, .val (.nilIface)), (8, .val (.iface 243 (.pointer (some (er (twoErr xs ys)))))), (16, .val (.bool true))]) (h1 := fun _ => []) (p1 := fun _ => []) (W1 := []) (by kernel_rfl) (fun _ => by kernel_rfl) (fun _ => trivial) (fun _ => ?_)
    refine J_cond_t (by kernel_rfl) (by kernel_rfl) ?_
    refine J_seq ?_
    refine J_reg mixed [.rd 0 [] 0 0, .rd 1 [] 0 0, .rd 2 [] 0 0] [] [0, 1, 2, 6, 7] (E1 := fun _ => [(0, .val (.slice a xs.length c)), (1, .val (.slice b ys.length d)), (2, .val (.func (.func 111) #[] #[])), (6, .val (.slice none 0 0)), (7, .val (.iface 243 (.pointer (some (er (twoErr xs ys))))))]) (h1 := fun _ => []) (p1 := fun _ => []) (W1 := []) (by kernel_rfl) (fun _ => by kernel_rfl) (fun _ => trivial) (fun _ => ?_)
    refine J_return [[], []] (.tuple #[.slice none 0 0, .iface 243 (.pointer (some (er (twoErr xs ys))))]) (by kernel_rfl) (fun a w s => ?_)
    exact .inl ⟨h2, s.ret (by simp) [] [] rfl rfl⟩

end Go.Proofs.YtpjkiomccpjboaaGreatDoor
